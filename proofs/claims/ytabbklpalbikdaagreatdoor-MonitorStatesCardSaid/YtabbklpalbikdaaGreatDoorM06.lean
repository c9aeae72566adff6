/-
 17 texts,one behind the other;each says what it proves. Conditions: as each text says.
-/
import Derived.Test.YtabbklpalbikdaaGreatDoorM05
import Derived.Test.YtabbklpalbikdaaGreatDoorM03
import Derived.Scope
set_option maxHeartbeats 32000000
set_option linter.unusedVariables false
set_option linter.unusedSimpArgs false
section
namespace Go.Proofs.YtabbklpalbikdaaGreatDoor
open Go.RowKit Go.Pt
theorem mW_rng (n : Int) : 0 ≤ mW n ∧ mW n < 4294967296 := by
 unfold mW
 rw [IntKind.wrap_u32]
 omega
theorem Rg.st {xs : List Value} {r : Nat} {v : Int} (h : Rg xs) (hv : 0 ≤ v ∧ v < 4294967296) : Rg (st xs r v) := by
 refine ⟨by rw [st_len];exact h.1,fun i hi => ?_⟩
 rw [List.getElem?_set]
 by_cases e : r = i
 ·subst e
  rw [if_pos rfl,if_pos (by rw [h.1];exact hi)]
  exact ⟨v,rfl,hv⟩
 ·rw [if_neg e]
  exact h.2 i hi
theorem DOk.hear {D : DS} {n who : Nat} (h : DOk D n) : DOk (hearD D who).2 n ∧ (0 ≤ (hearD D who).1 ∧ (hearD D who).1 < 4294967296) := by
 unfold hearD
 split
 ·rename_i z s hs
  refine ⟨⟨h.f,h.bx,h.used,h.ll,⟨by rw [List.length_set];exact h.ins.1,fun t ht => ?_⟩⟩,by have := z.toNat_lt;simp only;omega⟩
  rcases List.mem_or_eq_of_mem_set ht with ht | rfl
  ·exact h.ins.2 t ht
  ·have := h.ins.2 _ (List.mem_of_getElem? hs)
   simp at this
   omega
 ·exact ⟨h,mW_rng _⟩
theorem DOk.say {E : Pays} {D : DS} {n who : Nat} {at_ k : Int} (h : DOk D n) (hk : 0 ≤ k ∧ k < 4294967296) : DOk (sayD E D who at_ k).2 n ∧ (0 ≤ (sayD E D who at_ k).1 ∧ (sayD E D who at_ k).1 < 4294967296) := by
 unfold sayD
 split
 ·exact ⟨h,mW_rng _⟩
 split
 ·unfold saidD
  split
  ·exact ⟨h,mW_rng _⟩
  split
  ·exact ⟨h,hk⟩
  ·have hu := h.used
   have hl := h.ll
   exact ⟨⟨h.f,h.bx,by simp only;omega,by simp only [List.length_append,List.length_cons,List.length_nil];omega,h.ins⟩,hk⟩
 ·exact ⟨h,mW_rng _⟩
theorem DOk.send {E : Pays} {D : DS} {n who : Nat} {to at_ k : Int} (h : DOk D n) (hw : who < n) : DOk (sendD E D n who to at_ k).2 n ∧ (0 ≤ (sendD E D n who to at_ k).1 ∧ (sendD E D n who to at_ k).1 < 4294967296) := by
 unfold sendD
 split
 ·exact ⟨h,mW_rng _⟩
 rename_i hb
 split
 ·unfold sentD
  split
  ·exact ⟨h,mW_rng _⟩
  rename_i h4
  refine ⟨⟨h.f,fun i => ?_,h.used,h.ll,h.ins⟩,by simp only;omega⟩
  simp only
  split
  ·refine ⟨by rw [List.length_append,List.length_cons,List.length_nil];omega,fun x hx => ?_⟩
   rcases List.mem_append.1 hx with hx | hx
   ·exact (h.bx _).2 x hx
   ·simp only [List.mem_cons,List.not_mem_nil,or_false] at hx
    subst hx
    rw [memL_len]
    simp only
    omega
  ·exact h.bx i
 ·exact ⟨h,mW_rng _⟩
theorem DOk.take {E : Pays} {D : DS} {n who : Nat} {at_ old : Int} (h : DOk D n) (hn : n ≤ 4) (ho : 0 ≤ old ∧ old < 4294967296) : DOk (takeD E D who at_ old).2 n ∧ (0 ≤ (takeD E D who at_ old).1.1 ∧ (takeD E D who at_ old).1.1 < 4294967296) ∧ (0 ≤ (takeD E D who at_ old).1.2 ∧ (takeD E D who at_ old).1.2 < 4294967296) := by
 unfold takeD
 split
 ·unfold tookD
  split
  ·exact ⟨h,mW_rng _,ho⟩
  ·rename_i x r hx
   obtain ⟨b1,b2⟩ := h.bx who
   rw [hx] at b1 b2
   obtain ⟨c1,c2⟩ := b2 x (.head _)
   refine ⟨⟨putF_FB h.f _ _,fun i => ?_,h.used,h.ll,h.ins⟩,by simp only;omega,by simp only;omega⟩
   simp only
   split
   ·exact ⟨by simp only [List.length_cons] at b1;omega,fun y hy => b2 y (.tail _ hy)⟩
   ·exact h.bx i
 ·exact ⟨h,mW_rng _,ho⟩
theorem doA_ok {E : Pays} {D : DS} {n who : Nat} {xs : List Value} {a7 a0 a1 a2 : Int} (hE : PaysOk n E) (hD : DOk D n) (hw : who < n) (hn : n ≤ 4) (hR : Rg xs) (r0 : 0 ≤ a0 ∧ a0 < 4294967296) (r1 : 0 ≤ a1 ∧ a1 < 4294967296) :
  DOk (doA E D n who xs a7 a0 a1 a2).2 n ∧ Rg (doA E D n who xs a7 a0 a1 a2).1.1 := by
 unfold doA
 by_cases h : 7 < a7
 ·rw [if_pos h];exact ⟨hD,hR.st (mW_rng _)⟩
 rw [if_neg h];clear h
 by_cases h : askB E who a7 = 0
 ·rw [if_pos h];exact ⟨hD,hR.st (mW_rng _)⟩
 rw [if_neg h];clear h
 by_cases h : a7 = 0
 ·rw [if_pos h];exact ⟨hD,hR⟩
 rw [if_neg h];clear h
 by_cases h : a7 = 1
 ·rw [if_pos h];exact ⟨hD,hR.st ky⟩
 rw [if_neg h];clear h
 by_cases h : a7 = 2
 ·rw [if_pos h];exact ⟨(hD.say r1).1,hR.st (hD.say r1).2⟩
 rw [if_neg h];clear h
 by_cases h : a7 = 3
 ·rw [if_pos h];exact ⟨hD.hear.1,hR.st hD.hear.2⟩
 rw [if_neg h];clear h
 by_cases h : a7 = 4
 ·rw [if_pos h];exact ⟨(hD.send hw).1,hR.st (hD.send hw).2⟩
 rw [if_neg h];clear h
 by_cases h : a7 = 5
 ·rw [if_pos h];exact ⟨(hD.take hn r1).1,(hR.st (hD.take hn r1).2.1).st (hD.take hn r1).2.2⟩
 rw [if_neg h];clear h
 by_cases h : a7 = 6
 ·rw [if_pos h]
  by_cases h' : (E.gn who : Int) ≤ a0
  ·rw [if_pos h'];exact ⟨hD,hR.st (mW_rng _)⟩
  ·rw [if_neg h']
   have g := hE.g who a0.toNat hw ky
   exact ⟨hD,(((hR.st ky).st g.1).st g.2.1).st ky⟩
 rw [if_neg h];clear h
 by_cases h : mayD E who a0 32 2 = true
 ·rw [if_pos h];exact ⟨⟨putF_FB hD.f _ _,hD.bx,hD.used,hD.ll,hD.ins⟩,hR.st ky⟩
 ·rw [if_neg h];exact ⟨hD,hR.st (mW_rng _)⟩
end Go.Proofs.YtabbklpalbikdaaGreatDoor
end
section
namespace Go.Pt
open Go.RowKit
section
variable {P : Program} {ops : Array Oper} {N : Nat} {rest : List Oper} {Γ : Env} {Q : Exit → Act → World → Prop} {ty : TypeId} {pos : String} {af : Array Edge} {w0 : World} {H : List Blk} {t bt : TypeId} {x y : Operand}
end
end Go.Pt
namespace Go.Proofs.YtabbklpalbikdaaGreatDoor
open Go.RowKit Go.Pt
theorem ftimerX (c : Nat) (on : Bool) (F : Fs) (w : World) (hF : FX w c F) (hmip : F.mip = 0) :
  Calls Tryz.prog 124 #[.pointer (some ⟨c,0,none⟩),.bool on] w fun e w' => e = .returned (.tuple #[]) ∧ FX w' c { F with mip := if on then 128 else 0 } ∧ Upd (fun k => k = c) w w' := by
 obtain ⟨hl,hk,hc⟩ := hF
 obtain ⟨md,st,mie,mip,tv,sc,ep,ca,tl,cy,re,cf⟩ := F
 simp only at hmip
 subst hmip
 simp only [Fs.cells] at hl hk hc ⊢
 refine enter (args := [_,_]) (Γ := [(0,_),(1,_)]) Tryz.func124 Tryz.ntmps124 rfl odq (.cons rfl (.cons rfl .nil)) ?_
 refine St.cls (C' := Hp w [⟨c,.int .i64 md :: .int .u32 st :: .int .u32 mie :: .int .u32 0 :: .int .u32 tv :: .int .u32 sc :: .int .u32 ep :: .int .u32 ca :: .int .u32 tl :: (cf ++ [.int .u64 cy,.int .u64 re]),145⟩]) (fun _ h' => Hp.open h' hc) ?_
 cases on
 all_goals
  repeat' first | refine Wl.move rfl rfl ?_ | refine Wl.nilCheck rfl rfl ?_ | refine Wl.fieldAddrZ rfl rfl ?_ | (apply Wl.loadH;exact rfl;exact rfl;exact ke;exact rfl) | refine Wl.eqlPN rfl rfl rfl ?_ | refine Wl.or rfl rfl rfl ?_ | refine Wl.andNot rfl rfl rfl ?_ | (apply Wl.store;exact rfl;exact rfl;exact rfl;exact ke;exact kx) | apply Wl.nil | apply St.seq | apply St.region | (apply St.condT;exact rfl;exact ka) | (apply St.condF;exact rfl;exact ka) | apply St.skip | apply Gt.next | (apply Gt.out0n;exact rfl;intro w' hp)
  exact ⟨rfl,⟨hl,hk,hp.own.at (.head _)⟩,Hp.turned hp⟩
theorem freadEp (c : Nat) (F : Fs) (w : World) (hF : FX w c F) :
  Calls Tryz.prog 109 #[.pointer (some ⟨c,0,none⟩),.int .u32 833] w fun e w' => e = .returned (.tuple #[.int .u32 F.ep,.bool true]) ∧ Hp w [] w' := by
 obtain ⟨hl,hk,hc⟩ := hF
 obtain ⟨md,st,mie,mip,tv,sc,ep,ca,tl,cy,re,cf⟩ := F
 simp only [Fs.cells] at hl hk hc ⊢
 refine enter (args := [_,_]) (Γ := [(0,_),(1,_)]) Tryz.func109 Tryz.ntmps109 rfl odq (.cons rfl (.cons rfl .nil)) ?_
 refine St.cls (C' := Hp w [⟨c,.int .i64 md :: .int .u32 st :: .int .u32 mie :: .int .u32 mip :: .int .u32 tv :: .int .u32 sc :: .int .u32 ep :: .int .u32 ca :: .int .u32 tl :: (cf ++ [.int .u64 cy,.int .u64 re]),145⟩]) (fun _ h' => Hp.open h' hc) ?_
 repeat' first | refine Wl.move rfl rfl ?_ | refine Wl.assign rfl rfl ?_ | (apply Wl.off;exact rfl;exact rfl;exact rfl;exact kq) | refine Wl.nilCheck rfl rfl ?_ | (apply Wl.pickF;exact rfl;exact rfl;exact ka;exact rfl) | refine Wl.fieldAddrZ rfl rfl ?_ | (apply Wl.loadH;exact rfl;exact rfl;exact ke;exact rfl) | refine Wl.eqlPN rfl rfl rfl ?_ | (apply Wl.eqlIs;exact rfl;exact rfl;exact rfl;exact kv) | refine Wl.eql rfl rfl rfl ?_ | refine Wl.geq rfl rfl rfl ?_ | apply Wl.nil | apply St.seq | apply St.block | apply St.region | (apply St.condT;exact rfl;exact ka) | (apply St.condF;exact rfl;exact ka) | apply St.ret | apply St.skip | apply Gt.next | apply Gt.thenRet | apply Gt.inNormal | apply Gt.inRet | (apply Gt.out2;exact rfl;exact rfl;exact rfl;intro w' hp)
 exact ⟨rfl,Hp.same hp hc⟩
end Go.Proofs.YtabbklpalbikdaaGreatDoor
end
section
namespace Go.Pt
open Go.RowKit
section
variable {P : Program} {ops : Array Oper} {N : Nat} {rest : List Oper} {Γ : Env} {Q : Exit → Act → World → Prop} {ty : TypeId} {pos : String} {af : Array Edge} {w0 : World} {H : List Blk} {t bt : TypeId} {x y : Operand}
theorem Wl.store9X {b1 : Nat} [TyS P t 1 b1] {H' : List Blk} {c i : Nat} {k : IntKind} {z : Int} {v0 v1 v2 v3 v4 v5 v6 v7 v8 : Value} {cs cs' : List Value} (j : Nat) (hx : ev Γ x = some (.pointer (some ⟨c,i,none⟩))) (hy : ev Γ y = some (.int k z)) (hi : i = 9 + j)
  (hs : HSet c (v0 :: v1 :: v2 :: v3 :: v4 :: v5 :: v6 :: v7 :: v8 :: cs) (v0 :: v1 :: v2 :: v3 :: v4 :: v5 :: v6 :: v7 :: v8 :: cs') bt H H') (hj : j < cs.length) (he : cs.set j (.int k z) = cs')
  (h : Wl rest P .seq ops N Γ (Hp w0 H') Q) : Wl (⟨none,.store t x y,ty,pos,af,none⟩ :: rest) P .seq ops N Γ (Hp w0 H) Q := by
 subst hi he
 have e : LSet (v0 :: v1 :: v2 :: v3 :: v4 :: v5 :: v6 :: v7 :: v8 :: cs) (9 + j) (.int k z) (v0 :: v1 :: v2 :: v3 :: v4 :: v5 :: v6 :: v7 :: v8 :: cs.set j (.int k z)) := by
  rw [show 9 + j = j + 9 by omega]
  exact .s (.s (.s (.s (.s (.s (.s (.s (.s (LSet.of ky)))))))))
 exact Wl.store hx hy rfl hs e h
end
end Go.Pt
namespace Go.Proofs.YtabbklpalbikdaaGreatDoor
open Go.RowKit Go.Pt
def byF (x y : Int) : Int := IntKind.u8.wrap (bits .or .i64 (bits .and .i64 y 7) (IntKind.i64.wrap (bits .and .i64 x 3 * 2 ^ min (Int.toNat 3) IntKind.i64.bits)))
theorem fbyteX (x y z : Int) (w : World) : Calls Tryz.prog 108 #[.agg #[.int .i64 x,.int .i64 y,.int .u32 z]] w fun e w' => e = .returned (.int .u8 (byF x y)) ∧ Hp w [] w' := by
 refine enter (args := [_]) (Γ := [(0,_)]) Tryz.func108 Tryz.ntmps108 rfl odq (.cons rfl .nil) ?_
 repeat' first | refine Wl.assign rfl rfl ?_ | refine Wl.fieldAddr0 rfl rfl ?_ | refine Wl.fieldAddrZ rfl rfl ?_ | (apply Wl.loadH;exact rfl;exact rfl;exact ke;exact rfl) | refine Wl.and rfl rfl rfl ?_ | refine Wl.or rfl rfl rfl ?_ | (refine Wl.shl rfl rfl rfl ?_ ?_;omega) | refine Wl.convI rfl rfl ?_ | (apply Wl.boxA;exact rfl;exact rfl;intro c hc ho) | apply Wl.nil | apply St.seq | apply St.region | apply St.ret | apply Gt.next | (apply Gt.out1;exact rfl;exact rfl;intro w' hp)
 exact ⟨rfl,Hp.drop hp zx⟩
def protS (n : Nat) (en : Nat → Int × Int × Int) (cs : List Value) (i : Nat) : List Value :=
 if i < n then (((cs.set i (.int .u8 0)).set (16 + i) (.int .u32 0)).set i (.int .u8 (byF (en i).1 (en i).2.1))).set (16 + i) (.int .u32 (en i).2.2) else (cs.set i (.int .u8 0)).set (16 + i) (.int .u32 0)
def protC (n : Nat) (en : Nat → Int × Int × Int) (cs : List Value) : Nat → List Value
 | 0 => cs
 | i + 1 => protS n en (protC n en cs i) i
theorem protS_len (n : Nat) (en : Nat → Int × Int × Int) (cs : List Value) (i : Nat) : (protS n en cs i).length = cs.length := by unfold protS;split <;> simp only [List.length_set]
theorem protC_len (n : Nat) (en : Nat → Int × Int × Int) (cs : List Value) (i : Nat) : (protC n en cs i).length = cs.length := by
 induction i with
 | zero => rfl
 | succ i ih => unfold protC;rw [protS_len,ih]
theorem fprotectX (c n cap : Nat) (a : Option Addr) (en : Nat → Int × Int × Int) (md st mie mip tv sc ep ca tl : Int) (cs : List Value) (Su : Nat → Prop) (w0 w : World) (hl : cs.length = 34) (hn : n ≤ 16)
  (hc : w.heap[c]? = some (.cells (.int .i64 md :: .int .u32 st :: .int .u32 mie :: .int .u32 mip :: .int .u32 tv :: .int .u32 sc :: .int .u32 ep :: .int .u32 ca :: .int .u32 tl :: cs).toArray 145 (0,0))) (hu : Upd Su w0 w) (hc0 : Su c) (hS : EntX w0 a n en) (hSu : ∀ b o,a = some ⟨b,o,none⟩ → ¬ Su b) :
  Calls Tryz.prog 61 #[.pointer (some ⟨c,0,none⟩),.slice a n cap] w fun e w' => e = .returned (.int .i64 0) ∧ w'.heap[c]? = some (.cells (.int .i64 md :: .int .u32 st :: .int .u32 mie :: .int .u32 mip :: .int .u32 tv :: .int .u32 sc :: .int .u32 ep :: .int .u32 ca :: .int .u32 tl :: protC n en cs 16).toArray 145 (0,0)) ∧ Upd (fun k => k = c) w w' := by
 have hd0 : decide ((n : Int) > 16) = false := decide_eq_false ky
 refine enter (args := [_,_]) (Γ := [(0,_),(1,_)]) Tryz.func61 Tryz.ntmps61 rfl odq (.cons rfl (.cons rfl .nil)) ?_
 refine St.cls (C' := Hp w [⟨c,.int .i64 md :: .int .u32 st :: .int .u32 mie :: .int .u32 mip :: .int .u32 tv :: .int .u32 sc :: .int .u32 ep :: .int .u32 ca :: .int .u32 tl :: cs,145⟩]) (fun _ h' => Hp.open h' hc) ?_
 repeat' first | refine Wl.move rfl rfl ?_ | refine Wl.assign rfl rfl ?_ | (apply Wl.on;exact rfl;exact rfl;exact ka) | (apply Wl.pickF;exact rfl;exact rfl;exact ka;exact rfl) | refine Wl.eqlPN rfl rfl rfl ?_ | refine Wl.gtr rfl rfl rfl ?_ | refine Wl.len rfl rfl ?_ | apply Wl.nil | apply St.seq | apply St.block | apply St.region | (apply St.condF;exact rfl;exact ka) | apply St.skip | apply Gt.next
 have hup : ∀ cs w',Hp w [⟨c,.int .i64 md :: .int .u32 st :: .int .u32 mie :: .int .u32 mip :: .int .u32 tv :: .int .u32 sc :: .int .u32 ep :: .int .u32 ca :: .int .u32 tl :: cs,145⟩] w' → Upd Su w0 w' :=
  fun cs w' h => hu.comp (Hp.turned h) fun k _ hs => hs.elim id fun e => e ▸ hc0
 refine St.loop (σ := Nat) (fun i => i ≤ 16) (fun i => [(13,.int .i64 i),(0,.pointer (some ⟨c,0,none⟩)),(1,.slice a n cap)])
  (fun i => Hp w [⟨c,.int .i64 md :: .int .u32 st :: .int .u32 mie :: .int .u32 mip :: .int .u32 tv :: .int .u32 sc :: .int .u32 ep :: .int .u32 ca :: .int .u32 tl :: protC n en cs i,145⟩]) (fun i => 16 - i) 0 qs kw (fun _ h => h) ?_
 intro i hi
 obtain ⟨cs1,hcs1⟩ : ∃ cs1,protC n en cs i = cs1 := ⟨_,rfl⟩
 have hl1 : cs1.length = 34 := by rw [← hcs1,protC_len];exact hl
 have hnx : protC n en cs (i + 1) = protS n en cs1 i := by rw [← hcs1];rfl
 rw [hcs1]
 by_cases hlt : i < 16
 ·have hdi : decide ((i : Int) < 16) = true := decide_eq_true ky
  repeat' first | refine Wl.move rfl rfl ?_ | refine Wl.assign rfl rfl ?_ | refine Wl.lss rfl rfl rfl ?_ | apply Wl.nil | apply St.seq | apply St.block | apply St.region | (apply St.condT;exact rfl;exact ka) | apply St.skip | apply Gt.next
  refine St.tree (fun w' => Upd Su w0 w') mixed (fun _ h => ⟨Hp.drew h,hup _ _ (Hp.drew h)⟩) ?_
  refine Mt.pm 0 ?_
  refine Mt.pm 1 ?_
  refine Mt.pm 2 ?_
  refine Mt.pm 3 ?_
  refine Mt.pn 4 ?_
  refine Mt.pz 5 ?_
  refine Mt.pu 6 ?_
  refine Wl.indexAo rfl rfl rfl ?_ ?_;omega;apply Wl.nilB
  refine Mt.pn 8 ?_
  refine Mt.pz 9 ?_
  refine Mt.e1 7 ?_
  apply Wl.store9X i
  ·exact rfl
  ·exact rfl
  ·omega
  ·exact ke
  ·omega
  ·exact rfl
  apply Wl.nil
  refine Mt.backE (fun _ h => hup _ _ h) ?_
  refine Mt.pu 10 ?_
  refine Wl.indexAo rfl rfl rfl ?_ ?_;omega;apply Wl.nilB
  refine Mt.e1 11 ?_
  apply Wl.store9X (16 + i)
  ·exact rfl
  ·exact rfl
  ·omega
  ·exact ke
  ·simp only [List.length_set];omega
  ·exact rfl
  apply Wl.nil
  refine Mt.backE (fun _ h => hup _ _ h) ?_
  refine Mt.toGt kg ?_
  by_cases hin : i < n
  ·have hdn : decide ((i : Int) < (n : Int)) = true := decide_eq_true ky
   obtain ⟨b,o,rfl,h1,h2,h3⟩ := hS i hin
   have hb := hSu b o rfl
   have e3 : protS n en cs1 i = (((cs1.set i (.int .u8 0)).set (16 + i) (.int .u32 0)).set i (.int .u8 (byF (en i).1 (en i).2.1))).set (16 + i) (.int .u32 (en i).2.2) := by unfold protS;rw [if_pos hin]
   repeat' first | refine Wl.move rfl rfl ?_ | refine Wl.lss rfl rfl rfl ?_ | refine Wl.len rfl rfl ?_ | apply Wl.nil | apply St.seq | apply St.region | (apply St.condT;exact rfl;exact ka) | apply Gt.next
   refine St.tree (fun w' => Upd Su w0 w') mixed (fun _ h => ⟨Hp.drew h,hup _ _ (Hp.drew h)⟩) ?_
   refine Mt.pm 0 ?_
   refine Mt.pm 1 ?_
   refine Mt.pm 2 ?_
   refine Mt.pm 3 ?_
   refine Mt.pm 4 ?_
   refine Mt.pm 5 ?_
   refine Mt.pu 6 ?_
   refine Wl.indexAddr rfl rfl rfl ?_ ?_;constructor <;> omega;apply Wl.nilB
   refine Mt.pu 7 ?_
   apply Wl.loadAF (xs := [.int .i64 (en i).1,.int .i64 (en i).2.1,.int .u32 (en i).2.2])
   ·exact rfl
   ·exact rfl
   ·exact rfl
   ·intro w' h j v hj
    rw [addLit]
    match j,hj with
    | 0,hj => cases hj;exact h.cell h1 hb
    | 1,hj => cases hj;exact h.cell h2 hb
    | 2,hj => cases hj;exact h.cell h3 hb
   apply Wl.nilB
   refine Mt.pm 9 ?_
   refine Mt.pm 10 ?_
   refine Mt.pu 11 ?_
   refine Wl.indexAddr rfl rfl rfl ?_ ?_;constructor <;> omega;apply Wl.nilB
   refine Mt.pu 12 ?_
   refine Wl.fieldAddr rfl rfl (Wl.nilB ?_)
   refine Mt.pu 13 ?_
   apply Wl.loadF
   ·exact rfl
   ·exact rfl
   ·intro w' h;exact h.cell h3 hb
   apply Wl.nilB
   refine Mt.pn 14 ?_
   refine Mt.pz 15 ?_
   refine Mt.pn 18 ?_
   refine Mt.pz 19 ?_
   refine Mt.e1 8 ?_
   apply Wl.callC
   ·exact rfl
   ·exact ke
   intro wq hq
   refine (fbyteX (en i).1 (en i).2.1 (en i).2.2 wq).mono ?_
   rintro e wr ⟨rfl,hr⟩
   refine ⟨_,_,rfl,hq.keep hr,?_⟩
   clear hr hq wq wr
   apply Wl.nil
   refine Mt.backE (fun _ h => hup _ _ h) ?_
   refine Mt.pu 16 ?_
   refine Wl.indexAo rfl rfl rfl ?_ ?_;omega;apply Wl.nilB
   refine Mt.e1 17 ?_
   apply Wl.store9X i
   ·exact rfl
   ·exact rfl
   ·omega
   ·exact ke
   ·simp only [List.length_set];omega
   ·exact rfl
   apply Wl.nil
   refine Mt.backE (fun _ h => hup _ _ h) ?_
   refine Mt.pu 20 ?_
   refine Wl.indexAo rfl rfl rfl ?_ ?_;omega;apply Wl.nilB
   refine Mt.e1 21 ?_
   apply Wl.store9X (16 + i)
   ·exact rfl
   ·exact rfl
   ·omega
   ·exact ke
   ·simp only [List.length_set];omega
   ·exact rfl
   apply Wl.nil
   refine Mt.backE (fun _ h => hup _ _ h) ?_
   refine Mt.toGt kg ?_
   repeat' first | refine Wl.move rfl rfl ?_ | (refine Wl.addI rfl rfl rfl ?_ ?_;constructor <;> omega) | apply Wl.nil | apply St.region | apply Gt.next | apply Gt.inNormal
   apply Gt.round (i + 1)
   rotate_left
   ·omega
   ·exact ke
   ·intro w' h';rw [hnx,e3];exact h'
   ·exact hlt
  ·have hdn : decide ((i : Int) < (n : Int)) = false := decide_eq_false ky
   have e3 : protS n en cs1 i = (cs1.set i (.int .u8 0)).set (16 + i) (.int .u32 0) := by unfold protS;rw [if_neg hin]
   repeat' first | refine Wl.move rfl rfl ?_ | refine Wl.lss rfl rfl rfl ?_ | (refine Wl.addI rfl rfl rfl ?_ ?_;constructor <;> omega) | refine Wl.len rfl rfl ?_ | apply Wl.nil | apply St.seq | apply St.region | (apply St.condF;exact rfl;exact ka) | apply St.skip | apply Gt.next | apply Gt.inNormal
   apply Gt.round (i + 1)
   rotate_left
   ·omega
   ·exact ke
   ·intro w' h';rw [hnx,e3];exact h'
   ·exact hlt
 ·obtain rfl : i = 16 := by omega
  have hdi : decide (((16 : Nat) : Int) < 16) = false := by decide
  repeat' first | refine Wl.assign rfl rfl ?_ | refine Wl.lss rfl rfl rfl ?_ | apply Wl.nil | apply St.seq | apply St.region | (apply St.condF;exact rfl;exact ka) | apply St.ret | apply St.exit | apply Gt.next | apply Gt.thenExit | apply Gt.inExit | (apply Gt.out1;exact rfl;exact rfl;intro w' hp)
  rw [hcs1]
  exact ⟨rfl,hp.own.at (.head _),Hp.turned hp⟩
structure RunS (w : World) (base : Nat) (I : Mi) (M : Mv2) (F : Fs) : Prop where
 mon : MonS w base I M
 fx : FX w M.cf F
 ge : base ≤ M.cf ∧ 0 < base
 tv : 0 ≤ F.tv ∧ F.tv < 4294967296
 tab : tabOk w
theorem FX.blk {w : World} {c : Nat} {F : Fs} (h : FX w c F) : ∃ cs : Array Value,w.heap[c]? = some (.cells cs 145 (0,0)) := ⟨_,h.2.2⟩
theorem RunS.ne {w : World} {base : Nat} {I : Mi} {M : Mv2} {F : Fs} (k : RunS w base I M F) : ∀ x,MonF I M x → x ≠ M.cf := by
 obtain ⟨cs,h⟩ := k.fx.blk
 exact k.mon.offF (t := 145) h ze
theorem RunS.ss {w : World} {base : Nat} {I : Mi} {M : Mv2} {F : Fs} (k : RunS w base I M F) : SS w I.h M.cf I.cM M.xs M.pc F M.f := by
 obtain ⟨n1,n2,n3,n4,n5,n6,n7,n8,n9,n10,n11,n12,n13⟩ := k.mon.off k.mon.mem
 obtain ⟨g1,g2,g3,g4,g5,g6,g7,g8,g9,g10,g11⟩ := k.mon.ge
 have hb := k.ge
 exact ⟨k.mon.hart,k.fx,k.mon.mem,k.mon.rg.1,k.mon.rg.2,k.tv,k.tab,⟨by omega,by omega,by omega⟩,⟨k.ne _ (.inr (.inl rfl)),n2 ze,fun e => k.ne _ (.inr (.inr (.inr (.inr (.inr (.inr (.inr (.inr (.inr (.inl rfl)))))))))) e.symm⟩⟩
theorem RunS.upd {w w' : World} {base : Nat} {I : Mi} {M : Mv2} {F : Fs} {S : Nat → Prop} (k : RunS w base I M F) (u : Upd S w w') (hs : ∀ b,MonF I M b → ¬ S b) (hc : ¬ S M.cf) (h0 : ¬ S 0) : RunS w' base I M F :=
 ⟨k.mon.upd u hs,⟨k.fx.1,k.fx.2.1,u.heap k.fx.2.2 hc⟩,k.ge,k.tv,k.tab.upd u h0⟩
theorem mEpc (base : Nat) (I : Mi) (M : Mv2) (F : Fs) (w : World) (hR : RunS w base I M F) :
  Calls Tryz.prog 67 #[.pointer (some ⟨I.m,0,none⟩)] w fun e w' => e = .returned (.int .u32 F.ep) ∧ Hp w [] w' := by
 have hSS := hR.ss
 obtain ⟨c32,c33,c34⟩ := hSS.1.at1
 have q0 : w.cell? ⟨I.m,0,none⟩ = some (.pointer (some ⟨I.h,0,none⟩)) := cell_of hR.mon.mm rfl
 refine enter (args := [_]) (Γ := [(0,_)]) Tryz.func67 Tryz.ntmps67 rfl odq (.cons rfl .nil) ?_
 repeat' first | (apply Wl.loadO;exact rfl;exact rfl;exact zw;exact kh) | refine Wl.move rfl rfl ?_ | refine Wl.assign rfl rfl ?_ | refine Wl.nilCheck rfl rfl ?_ | refine Wl.fieldAddr0 rfl rfl ?_ | refine Wl.fieldAddrZ rfl rfl ?_ | apply Wl.nil | apply St.seq | apply St.region | apply Gt.next
 apply Wl.callQ
 exact rfl
 (focus repeat constructor)
 ·intro wq hq
  exact hq.q (freadEp M.cf F wq ⟨hR.fx.1,hR.fx.2.1,hq.upd.heap hR.fx.2.2 fun y => y trivial⟩)
 repeat' first | refine Wl.move rfl rfl ?_ | refine Wl.assign rfl rfl ?_ | refine Wl.extract rfl rfl rfl ?_ | apply Wl.nil | apply St.seq | apply St.region | apply St.ret | apply Gt.next | (apply Gt.out1;exact rfl;exact rfl;intro w' hp)
 exact ⟨rfl,hp⟩
section
variable {w w' : World} {base : Nat} {I : Mi} {M : Mv2}
theorem MonS.wrd {L' : List Sta} {t' : Int} (k : MonS w base I M) (hW : WardS w' I.wd I.sa L' t') (hl : L'.length = M.L.length) (u : Upd (fun b => b = I.sa ∨ b = I.wd) w w') : MonS w' base I {M with L := L',t := t'} := by
 obtain ⟨⟨wc,J1,wa,wb⟩,_⟩ := k.ward
 obtain ⟨n1,n2,n3,n4,n5,n6,n7,n8,n9,n10,n11,n12,n13⟩ := k.off wa
 obtain ⟨m1,m2,m3,m4,m5,m6,m7,m8,m9,m10,m11,m12,m13⟩ := k.off wb
 exact {
  mm := u.heap k.mm fun h => h.elim (m1 ze) (n1 ze)
  dd := u.heap k.dd fun h => h.elim (m3 ze) (n3 ze)
  ward := hW
  post := k.post.upd u (fun h => h.elim (m6 ze) (n6 ze)) (fun h => h.elim (m7 ze) (n7 ze)) fun c hc h => h.elim (m11 c hc) (n11 c hc)
  board := k.board.upd u (fun h => h.elim (m8 ze) (n8 ze)) (fun h => h.elim (m9 ze) (n9 ze)) fun c hc h => h.elim (m12 ze c hc) (n12 ze c hc)
  mem := u.heap k.mem fun h => h.elim (m10 ze) (n10 ze)
  hart := k.hart.upd u fun h => h.elim (m2 ze) (n2 ze)
  seen := ownsRow_upd k.seen u fun c hc h => h.elim (m13 ze c hc) (n13 ze c hc)
  rg := k.rg
  len := ⟨k.len.1.trans hl.symm,k.len.2.trans hl.symm⟩
  ge := k.ge }
theorem MonS.stp {xs' : List Value} {pc' : Int} {f' : Nat → Int} {cf' : Nat} {S : Nat → Prop} (k : MonS w base I M) (hH : HH w' I.h cf' (.pointer (some ⟨I.cM,0,none⟩)) xs' pc') (hm : memH w' I.cM f') (hx : Rg xs') (hp : 0 ≤ pc' ∧ pc' < 4294967296)
  (u : Upd S w w') (hS : ∀ b,MonF I M b → S b → b = I.h ∨ b = I.cM) : MonS w' base I {M with xs := xs',pc := pc',f := f',cf := cf'} := by
 obtain ⟨n1,n2,n3,n4,n5,n6,n7,n8,n9,n10,n11,n12,n13⟩ := k.off k.hart.2
 obtain ⟨m1,m2,m3,m4,m5,m6,m7,m8,m9,m10,m11,m12,m13⟩ := k.off k.mem
 have key : ∀ b,MonF I M b → b ≠ I.h → b ≠ I.cM → ¬ S b := fun b hb h1 h2 hs => (hS b hb hs).elim h1 h2
 exact {
  mm := u.heap k.mm (key _ (.inl rfl) (n1 ze) (m1 ze))
  dd := u.heap k.dd (key _ (.inr (.inr (.inl rfl))) (n3 ze) (m3 ze))
  ward := k.ward.upd u (key _ (.inr (.inr (.inr (.inl rfl)))) (n4 ze) (m4 ze)) (key _ (.inr (.inr (.inr (.inr (.inl rfl))))) (n5 ze) (m5 ze))
  post := k.post.upd u (key _ (.inr (.inr (.inr (.inr (.inr (.inl rfl)))))) (n6 ze) (m6 ze)) (key _ (.inr (.inr (.inr (.inr (.inr (.inr (.inl rfl))))))) (n7 ze) (m7 ze)) fun c hc => key _ (.inr (.inr (.inr (.inr (.inr (.inr (.inr (.inr (.inr (.inr (.inl hc))))))))))) (n11 c hc) (m11 c hc)
  board := k.board.upd u (key _ (.inr (.inr (.inr (.inr (.inr (.inr (.inr (.inl rfl)))))))) (n8 ze) (m8 ze)) (key _ (.inr (.inr (.inr (.inr (.inr (.inr (.inr (.inr (.inl rfl))))))))) (n9 ze) (m9 ze)) fun c hc => key _ (.inr (.inr (.inr (.inr (.inr (.inr (.inr (.inr (.inr (.inr (.inr (.inl hc)))))))))))) (n12 ze c hc) (m12 ze c hc)
  mem := hm
  hart := hH
  seen := ownsRow_upd k.seen u fun c hc => key _ (.inr (.inr (.inr (.inr (.inr (.inr (.inr (.inr (.inr (.inr (.inr (.inr hc)))))))))))) (n13 ze c hc) (m13 ze c hc)
  rg := ⟨hx,hp⟩
  len := k.len
  ge := k.ge }
theorem RunS.wrd {F : Fs} {L' : List Sta} {t' : Int} (k : RunS w base I M F) (hW : WardS w' I.wd I.sa L' t') (hl : L'.length = M.L.length) (u : Upd (fun b => b = I.sa ∨ b = I.wd) w w') : RunS w' base I {M with L := L',t := t'} F :=
 ⟨k.mon.wrd hW hl u,⟨k.fx.1,k.fx.2.1,u.heap k.fx.2.2 fun h => h.elim (fun e => k.ne _ (.inr (.inr (.inr (.inr (.inl rfl))))) e.symm) fun e => k.ne _ (.inr (.inr (.inr (.inl rfl)))) e.symm⟩,k.ge,k.tv,k.tab.upd u fun h => by
  obtain ⟨g1,g2,g3,g4,g5,_⟩ := k.mon.ge
  have := k.ge.2
  omega⟩
theorem RunS.stp {F F' : Fs} {xs' : List Value} {pc' : Int} {f' : Nat → Int} (k : RunS w base I M F) (hS : SS w' I.h M.cf I.cM xs' pc' F' f') (u : Upd (fun b => b = I.h ∨ b = M.cf ∨ b = I.cM) w w') : RunS w' base I {M with xs := xs',pc := pc',f := f'} F' :=
 ⟨k.mon.stp hS.1 hS.2.2.1 hS.2.2.2.1 hS.2.2.2.2.1 u fun b hb hs => hs.elim .inl fun h => h.elim (fun e => (k.ne b hb e).elim) .inr,hS.2.1,k.ge,hS.2.2.2.2.2.1,hS.2.2.2.2.2.2.1⟩
end
theorem mKeep (base : Nat) (I : Mi) (M : Mv2) (F : Fs) (n : Nat) (x : Sta) (w : World) (hR : RunS w base I M F) (hn : M.t = n) (hi : M.L[n]? = some x) (hep : 0 ≤ F.ep ∧ F.ep < 4294967296) :
  Calls Tryz.prog 64 #[.pointer (some ⟨I.m,0,none⟩)] w fun e w' => e = .returned (.tuple #[]) ∧ RunS w' base I {M with L := M.L.set n ⟨x.s,x.c,F.ep,M.xs.set 0 (.int .u32 0)⟩,t := n} F ∧ Upd (fun k => k = I.sa) w w' := by
 have hM := hR.mon
 have hl32 := hM.hart.1
 have hq0 : ∀ {wq : World},Hp w [] wq → RunS wq base I M F := fun hq => hR.upd hq.upd (fun b hb y => y trivial) nt0 nt0
 refine enter (args := [_]) (Γ := [(0,_)]) Tryz.func64 Tryz.ntmps64 rfl odq (.cons rfl .nil) ?_
 refine St.tree (fun w' => w'.heap[I.m]? = some (.cells #[.pointer (some ⟨I.h,0,none⟩),.pointer (some ⟨I.d,0,none⟩),.pointer (some ⟨I.wd,0,none⟩),M.seen] 130 (0,0)) ∧ HH w' I.h M.cf (.pointer (some ⟨I.cM,0,none⟩)) M.xs M.pc) mixed (fun _ h' => ⟨Hp.drew h',(hq0 (Hp.drew h')).mon.mm,(hq0 (Hp.drew h')).mon.hart⟩) ?_
 refine Mt.pm 0 ?_
 refine Mt.pm 4 ?_
 refine Mt.pm 11 ?_
 refine Mt.pn 1 ?_
 refine Mt.pn 5 ?_
 refine Mt.pz 2 ?_
 refine Mt.pf 6 ?_
 refine Mt.pu 3 ?_
 apply Wl.loadF;exact rfl;exact rfl;(intro w' h';exact cell_of h'.1 rfl);apply Wl.nilB
 refine Mt.pu 7 ?_
 apply Wl.loadF;exact rfl;exact rfl;(intro w' h';exact cell_of h'.1 rfl);apply Wl.nilB
 refine Mt.pn 8 ?_
 refine Mt.pf 9 ?_
 refine Mt.pu 10 ?_
 apply Wl.loadAF (xs := M.xs);exact rfl;exact rfl;exact hl32;(intro w' h' j v hj;rw [addLit];exact cell_of h'.2.2 qj);apply Wl.nilB
 refine Mt.e1 12 ?_
 apply Wl.callQ
 ·exact rfl
 ·exact ke
 ·intro wq hq
  exact hq.q (mEpc base I M F wq (hq0 hq))
 apply Wl.nil
 refine Mt.backE (fun _ h' => ⟨(hq0 h').mon.mm,(hq0 h').mon.hart⟩) ?_
 refine Mt.e1 13 ?_
 apply Wl.callC
 ·exact rfl
 ·exact ke
 intro wq hq
 have hRq := hq0 hq
 refine (wKeep I.wd I.sa M.L n x M.xs F.ep wq (hn ▸ hRq.mon.ward) hi hM.rg.1 hep).mono ?_
 rintro e w3 ⟨rfl,hW3,u3⟩
 have h3 := hRq.wrd hW3 (List.length_set ..) (u3.mono fun k _ h => .inl h)
 have hu3 : Upd (fun k => k = I.sa) w w3 := (hq.upd.mono fun _ _ y => (y trivial).elim).comp u3 fun k _ hs => hs.elim id id
 refine ⟨_,_,rfl,Hp.start w3,?_⟩
 apply Wl.nil
 refine Mt.backE (fun _ h' => have k := h3.upd (Hp.upd h') (fun b hb y => y trivial) nt0 nt0;⟨k.mon.mm,k.mon.hart⟩) ?_
 refine Mt.toGt kg ?_
 repeat' first | (apply Gt.out0n;exact rfl;intro w' hp)
 exact ⟨rfl,h3.upd hp.upd (fun b hb y => y trivial) nt0 nt0,hu3.comp (hp.upd.mono fun _ _ y => (y trivial).elim) fun k _ hs => hs.elim id id⟩
theorem ftimerY (c : Nat) (F : Fs) (w : World) (hF : FX w c F) (hmip : F.mip = 128) :
  Calls Tryz.prog 124 #[.pointer (some ⟨c,0,none⟩),.bool false] w fun e w' => e = .returned (.tuple #[]) ∧ FX w' c { F with mip := 0 } ∧ Upd (fun k => k = c) w w' := by
 obtain ⟨hl,hk,hc⟩ := hF
 obtain ⟨md,st,mie,mip,tv,sc,ep,ca,tl,cy,re,cf⟩ := F
 simp only at hmip
 subst hmip
 simp only [Fs.cells] at hl hk hc ⊢
 refine enter (args := [_,_]) (Γ := [(0,_),(1,_)]) Tryz.func124 Tryz.ntmps124 rfl odq (.cons rfl (.cons rfl .nil)) ?_
 refine St.cls (C' := Hp w [⟨c,.int .i64 md :: .int .u32 st :: .int .u32 mie :: .int .u32 128 :: .int .u32 tv :: .int .u32 sc :: .int .u32 ep :: .int .u32 ca :: .int .u32 tl :: (cf ++ [.int .u64 cy,.int .u64 re]),145⟩]) (fun _ h' => Hp.open h' hc) ?_
 repeat' first | refine Wl.move rfl rfl ?_ | refine Wl.nilCheck rfl rfl ?_ | refine Wl.fieldAddrZ rfl rfl ?_ | (apply Wl.loadH;exact rfl;exact rfl;exact ke;exact rfl) | refine Wl.eqlPN rfl rfl rfl ?_ | refine Wl.andNot rfl rfl rfl ?_ | (apply Wl.store;exact rfl;exact rfl;exact rfl;exact ke;exact kx) | apply Wl.nil | apply St.seq | apply St.region | (apply St.condF;exact rfl;exact ka) | apply St.skip | apply Gt.next | (apply Gt.out0n;exact rfl;intro w' hp)
 exact ⟨rfl,⟨hl,hk,hp.own.at (.head _)⟩,Hp.turned hp⟩
theorem FX.mode {w : World} {c : Nat} {F : Fs} (h : FX w c F) : ∃ r,w.heap[c]? = some (.cells (.int .i64 F.md :: r).toArray 145 (0,0)) ∧ ∀ (m : Int) (w' : World),w'.heap[c]? = some (.cells (.int .i64 m :: r).toArray 145 (0,0)) → FX w' c { F with md := m } := by
 obtain ⟨hl,hk,hc⟩ := h
 obtain ⟨md,st,mie,mip,tv,sc,ep,ca,tl,cy,re,cf⟩ := F
 simp only [Fs.cells] at hc
 exact ⟨_,hc,fun m w' h' => ⟨hl,hk,h'⟩⟩
theorem dueT (st : Int) : dueOf 0 st 128 128 = true := by unfold dueOf;rw [show decide (bits .and .u32 (bits .and .u32 128 128) 128 ≠ 0) = true by decide];rfl
theorem mTimer (base : Nat) (I : Mi) (M : Mv2) (F : Fs) (w : World) (hR : RunS w base I M F) (hmie : F.mie = 128) (hmip : F.mip = 0) :
  Calls Tryz.prog 69 #[.pointer (some ⟨I.m,0,none⟩)] w fun e w' => e = .returned (.tuple #[]) ∧ MonS w' base I M ∧ Upd (fun k => k = I.h ∨ k = M.cf ∨ k = I.cM) w w' := by
 obtain ⟨c32,c33,c34⟩ := hR.mon.hart.at1
 have q0 : w.cell? ⟨I.m,0,none⟩ = some (.pointer (some ⟨I.h,0,none⟩)) := cell_of hR.mon.mm rfl
 obtain ⟨r,hcf,hset⟩ := hR.fx.mode
 have n1 : M.cf ≠ I.m := fun e => hR.ne _ (.inl rfl) e.symm
 have n2 : M.cf ≠ I.h := fun e => hR.ne _ (.inr (.inl rfl)) e.symm
 have n0 : (0 : Nat) ≠ M.cf := by have := hR.ge;omega
 refine enter (args := [_]) (Γ := [(0,_)]) Tryz.func69 Tryz.ntmps69 rfl odq (.cons rfl .nil) ?_
 refine St.cls (fun _ h' => Hp.open h' hcf trivial) ?_
 repeat' first | (apply Wl.loadO;exact rfl;exact rfl;exact zw;exact kh) | refine Wl.move rfl rfl ?_ | refine Wl.nilCheck rfl rfl ?_ | refine Wl.fieldAddr0 rfl rfl ?_ | refine Wl.fieldAddrZ rfl rfl ?_ | (apply Wl.store;exact rfl;exact rfl;exact rfl;exact ke;exact kx) | apply Wl.nil | apply St.seq | apply St.region | apply Gt.next
 apply Wl.callC
 ·exact rfl
 ·exact ke
 intro wq hq
 have hfx0 := hset 0 wq (hq.own.at (.head _))
 refine (ftimerX M.cf true _ wq hfx0 hmip).mono ?_
 rintro e w1 ⟨rfl,hfx1,u1⟩
 have u01 : Upd (fun k => k = M.cf) w w1 := (Hp.turned hq).comp u1 fun k _ hs => hs.elim id id
 have R1 : RunS w1 base I M { F with md := 0,mip := 128 } := ⟨hR.mon.upd u01 fun b hb e => hR.ne b hb e,hfx1,hR.ge,hR.tv,hR.tab.upd u01 n0⟩
 refine ⟨_,_,rfl,Hp.start w1,?_⟩
 obtain ⟨d32,d33,d34⟩ := R1.mon.hart.at1
 have q1 : w1.cell? ⟨I.m,0,none⟩ = some (.pointer (some ⟨I.h,0,none⟩)) := cell_of R1.mon.mm rfl
 repeat' first | (apply Wl.loadO;exact rfl;exact rfl;exact zw;exact kh) | refine Wl.move rfl rfl ?_ | refine Wl.assign rfl rfl ?_ | refine Wl.nilCheck rfl rfl ?_ | refine Wl.fieldAddr0 rfl rfl ?_ | refine Wl.fieldAddrZ rfl rfl ?_ | apply Wl.nil | apply St.seq | apply St.region | apply Gt.next
 apply Wl.callC
 ·exact rfl
 ·exact ke
 intro wq2 hq2
 have R1q := R1.upd hq2.upd (fun b hb y => y trivial) nt0 nt0
 refine (stepU I.h M.cf I.cM M.xs M.pc _ M.f wq2 R1q.ss rfl).mono ?_
 rintro e w2 ⟨v,rfl,hO,u2⟩
 rcases hO with ⟨_,_,s',_,_,_,hS2⟩ | ⟨hd,_⟩
 rotate_left
 ·simp only at hd
  rw [hmie,dueT] at hd
  cases hd
 have R2 := R1q.stp hS2 u2
 have u02 : Upd (fun k => k = I.h ∨ k = M.cf ∨ k = I.cM) w w2 := (u01.comp hq2.upd (T := fun k => k = I.h ∨ k = M.cf ∨ k = I.cM) fun k _ hs => hs.elim (fun e => .inr (.inl e)) fun y => (y trivial).elim).comp u2 fun k _ hs => hs.elim id id
 refine ⟨_,_,rfl,Hp.start w2,?_⟩
 obtain ⟨e32,e33,e34⟩ := R2.mon.hart.at1
 have q2 : w2.cell? ⟨I.m,0,none⟩ = some (.pointer (some ⟨I.h,0,none⟩)) := cell_of R2.mon.mm rfl
 repeat' first | (apply Wl.loadO;exact rfl;exact rfl;exact zw;exact kh) | refine Wl.move rfl rfl ?_ | refine Wl.nilCheck rfl rfl ?_ | refine Wl.fieldAddr0 rfl rfl ?_ | refine Wl.fieldAddrZ rfl rfl ?_ | apply Wl.nil | apply St.seq | apply St.region | apply Gt.next
 apply Wl.callC
 ·exact rfl
 ·exact ke
 intro wq3 hq3
 have R2q := R2.upd hq3.upd (fun b hb y => y trivial) nt0 nt0
 refine (ftimerY M.cf _ wq3 R2q.fx rfl).mono ?_
 rintro e w3 ⟨rfl,hfx3,u3⟩
 have M3 := R2q.mon.upd u3 fun b hb e => R2q.ne b hb e
 have u03 : Upd (fun k => k = I.h ∨ k = M.cf ∨ k = I.cM) w w3 := (u02.comp hq3.upd (T := fun k => k = I.h ∨ k = M.cf ∨ k = I.cM) fun k _ hs => hs.elim id fun y => (y trivial).elim).comp u3 fun k _ hs => hs.elim id fun e => .inr (.inl e)
 refine ⟨_,_,rfl,Hp.start w3,?_⟩
 obtain ⟨f32,f33,f34⟩ := M3.hart.at1
 have q3 : w3.cell? ⟨I.m,0,none⟩ = some (.pointer (some ⟨I.h,0,none⟩)) := cell_of M3.mm rfl
 have n3 : I.h ≠ I.m := fun e => (M3.off M3.hart.2).1 ze e.symm
 refine Wl.cls (fun _ h' => Hp.open h' M3.hart.2 trivial) ?_
 repeat' first | (apply Wl.loadO;exact rfl;exact rfl;exact zw;exact kh) | (apply Wl.storeHi 0;exact rfl;exact rfl;exact rfl;exact ke;exact M3.hart.1;exact rfl;exact kx) | refine Wl.move rfl rfl ?_ | refine Wl.nilCheck rfl rfl ?_ | refine Wl.fieldAddr0 rfl rfl ?_ | refine Wl.fieldAddrZ rfl rfl ?_ | apply Wl.nil | apply St.region | apply Gt.next | (apply Gt.out0n;exact rfl;intro w' hp)
 have hm3 : memH w' I.cM M.f := hp.upd.heap M3.mem fun y => y ⟨fun e => (M3.off M3.mem).2.1 ze e,trivial⟩
 exact ⟨rfl,M3.stp (cf' := M.cf) ⟨M3.hart.1,hp.own.at (.head _)⟩ hm3 hR.mon.rg.1 hR.mon.rg.2 (Hp.turned hp) (fun b hb hs => .inl hs),u03.comp (Hp.turned hp) fun k _ hs => hs.elim id .inl⟩
theorem fwriteX (c : Nat) (F : Fs) (w : World) (hF : FX w c F) :
  Calls Tryz.prog 62 #[.pointer (some ⟨c,0,none⟩),.int .u32 772,.int .u32 128] w fun e w' => e = .returned (.bool true) ∧ FX w' c { F with mie := 128 } ∧ Upd (fun k => k = c) w w' := by
 obtain ⟨hl,hk,hc⟩ := hF
 obtain ⟨md,st,mie,mip,tv,sc,ep,ca,tl,cy,re,cf⟩ := F
 simp only [Fs.cells] at hl hk hc ⊢
 refine enter (args := [_,_,_]) (Γ := [(0,_),(1,_),(2,_)]) Tryz.func62 Tryz.ntmps62 rfl odq (.cons rfl (.cons rfl (.cons rfl .nil))) ?_
 refine St.cls (C' := Hp w [⟨c,.int .i64 md :: .int .u32 st :: .int .u32 mie :: .int .u32 mip :: .int .u32 tv :: .int .u32 sc :: .int .u32 ep :: .int .u32 ca :: .int .u32 tl :: (cf ++ [.int .u64 cy,.int .u64 re]),145⟩]) (fun _ h' => Hp.open h' hc) ?_
 repeat' first | refine Wl.move rfl rfl ?_ | refine Wl.assign rfl rfl ?_ | apply Wl.nil | apply St.seq | apply St.region | apply Gt.next
 apply Wl.callC
 ·exact rfl
 ·exact ke
 intro wq hq
 refine (fread_any c _ md st mie mip tv sc ep ca tl _ wq ze hk (hq.own.at (.head _))).mono ?_
 rintro e wr ⟨⟨v,rfl⟩,hr⟩
 refine ⟨_,_,rfl,hq.keep hr,?_⟩
 clear hr hq wq wr
 rw [decide_eq_true ze]
 repeat' first | refine Wl.move rfl rfl ?_ | refine Wl.assign rfl rfl ?_ | (apply Wl.on;exact rfl;exact rfl;exact ka) | (apply Wl.off;exact rfl;exact rfl;exact rfl;exact kq) | refine Wl.extract rfl rfl rfl ?_ | refine Wl.nilCheck rfl rfl ?_ | (apply Wl.pickF;exact rfl;exact rfl;exact ka;exact rfl) | refine Wl.not rfl rfl ?_ | refine Wl.fieldAddrZ rfl rfl ?_ | (apply Wl.eqlIs;exact rfl;exact rfl;exact rfl;exact kv) | refine Wl.eql rfl rfl rfl ?_ | refine Wl.geq rfl rfl rfl ?_ | refine Wl.and rfl rfl rfl ?_ | (apply Wl.store;exact rfl;exact rfl;exact rfl;exact ke;exact kx) | apply Wl.nil | apply St.seq | apply St.block | apply St.region | (apply St.condT;exact rfl;exact ka) | (apply St.condF;exact rfl;exact ka) | apply St.ret | apply St.skip | apply Gt.next | apply Gt.inNormal | (apply Gt.out1;exact rfl;exact rfl;intro w' hp)
 exact ⟨rfl,⟨hl,hk,hp.own.at (.head _)⟩,Hp.turned hp⟩
def F0 : Fs := ⟨3,0,0,0,0,0,0,0,0,0,0,fzero.take 32⟩
theorem fnewX (w : World) : Calls Tryz.prog 60 #[] w fun e w' => ∃ c,e = .returned (.pointer (some ⟨c,0,none⟩)) ∧ FX w' c F0 ∧ w.heap.size ≤ c ∧ Upd (fun k => w.heap.size ≤ k) w w' := by
 refine enter (args := []) (Γ := []) Tryz.func60 Tryz.ntmps60 rfl odq .nil ?_
 repeat' first | refine Wl.assign rfl rfl ?_ | (apply Wl.buildS;exact rfl;exact ki;exact kc) | (apply Wl.boxA;exact rfl;exact rfl;intro c hc ho) | apply Wl.nil | apply St.seq | apply St.region | apply St.ret | apply Gt.next | (apply Gt.out1;exact rfl;exact rfl;intro w' hp)
 exact ⟨c,rfl,⟨rfl,fzero_kd,hp.own.at (.head _)⟩,by assumption,hp.on (Upd.refl _ _) zx⟩
theorem MonS.snn {w w' : World} {base : Nat} {I : Mi} {M : Mv2} {v' : Value} {sn' : Nat} {sx' : List Value} {S : Nat → Prop} (k : MonS w base I M)
  (hm : w'.heap[I.m]? = some (.cells #[.pointer (some ⟨I.h,0,none⟩),.pointer (some ⟨I.d,0,none⟩),.pointer (some ⟨I.wd,0,none⟩),v'] 130 (0,0))) (hs : w'.ownsRow base 70 7 v' sn' sx')
  (u : Upd S w w') (hS : ∀ b,MonF I M b → S b → b = I.m ∨ M.seen.ownBlock = some b) : MonS w' base I {M with seen := v',sn := sn',sx := sx'} := by
 obtain ⟨⟨wc,J1,wa,wb⟩,_⟩ := k.ward
 obtain ⟨⟨pc,J2,pa,pb⟩,hcs,_⟩ := k.post
 obtain ⟨⟨bc,J3,ba,bb⟩,hlv,_⟩ := k.board
 obtain ⟨n1,n2,n3,n4,n5,n6,n7,n8,n9,n10,n11,n12,n13⟩ := k.off k.mm
 have key : ∀ {b t : Nat} {cs : Array Value},MonF I M b → w.heap[b]? = some (.cells cs t (0,0)) → t ≠ 70 → b ≠ I.m → ¬ S b := fun hF hb ht hne h => (hS _ hF h).elim hne fun h => row_neT k.seen hb ht _ h rfl
 exact {
  mm := hm
  dd := u.heap k.dd (key (.inr (.inr (.inl rfl))) k.dd ze (n3 ze))
  ward := k.ward.upd u (key (.inr (.inr (.inr (.inl rfl)))) wa ze (n4 ze)) (key (.inr (.inr (.inr (.inr (.inl rfl))))) wb ze (n5 ze))
  post := k.post.upd u (key (.inr (.inr (.inr (.inr (.inr (.inl rfl)))))) pa ze (n6 ze)) (key (.inr (.inr (.inr (.inr (.inr (.inr (.inl rfl))))))) pb ze (n7 ze)) fun c hc h => by
   obtain ⟨i,hi⟩ := List.mem_iff_getElem?.1 hc
   rcases hS c (.inr (.inr (.inr (.inr (.inr (.inr (.inr (.inr (.inr (.inr (.inl hc))))))))))) h with h | h
   ·exact n11 c hc h
   ·exact (k.seen.heap h).elim fun _ hg => chan_ne (hcs i c hi) hg rfl
  board := k.board.upd u (key (.inr (.inr (.inr (.inr (.inr (.inr (.inr (.inl rfl)))))))) ba ze (n8 ze)) (key (.inr (.inr (.inr (.inr (.inr (.inr (.inr (.inr (.inl rfl))))))))) bb ze (n9 ze)) fun b hb => (hlv.heap hb).elim fun _ hg => key (.inr (.inr (.inr (.inr (.inr (.inr (.inr (.inr (.inr (.inr (.inr (.inl hb)))))))))))) hg ze (n12 ze b hb)
  mem := u.heap k.mem (key (.inr (.inr (.inr (.inr (.inr (.inr (.inr (.inr (.inr (.inl rfl)))))))))) k.mem ze (n10 ze))
  hart := k.hart.upd u (key (.inr (.inl rfl)) k.hart.2 ze (n2 ze))
  seen := hs
  rg := k.rg
  len := k.len
  ge := k.ge }
structure RSt where
 xs : List Value
 pc : Int
 D : DS
structure OS where
 why : Int
 code : Int
 kpc : Int
 s : RSt
structure RO where
 xs : List Value
 kpc : Int
 D : DS
 why : Int
 code : Int
 tr : List Rz
noncomputable def callD (E : Pays) (n who : Nat) (xs : List Value) (D : DS) : (List Value × Int) × DS := doA E D n who xs (regI xs 17) (regI xs 10) (regI xs 11) (regI xs 12)
def pcB (pc : Int) : Int := IntKind.u32.wrap (pc - pc % 4 + 4)
def callO (r : (List Value × Int) × DS) (pc : Int) : OS :=
 if r.1.2 = 1 then ⟨3,regI r.1.1 10,pcB pc,⟨r.1.1,pcB pc,r.2⟩⟩ else if r.1.2 = 2 then ⟨2,0,pcB pc,⟨r.1.1,pcB pc,r.2⟩⟩ else ⟨0,0,pcB pc,⟨r.1.1,pcB pc,r.2⟩⟩
def DS.mem (D : DS) (f : Nat → Int) : DS := { D with f := f }
noncomputable def goR (cf : List Value) (s : RSt) : Rz := stepF s.xs s.pc cf s.D.f
noncomputable def oneF (E : Pays) (n who : Nat) (cf : List Value) (s : RSt) : OS :=
 if (goR cf s).tr = false then ⟨0,0,(goR cf s).pc,⟨(goR cf s).xs,(goR cf s).pc,s.D.mem (goR cf s).f⟩⟩
 else if (goR cf s).c1 ≠ 8 then ⟨4,(goR cf s).c1,s.pc - s.pc % 4,⟨(goR cf s).xs,s.pc,s.D.mem (goR cf s).f⟩⟩
 else callO (callD E n who (goR cf s).xs (s.D.mem (goR cf s).f)) s.pc
noncomputable def runF (E : Pays) (n who : Nat) (cf : List Value) : Nat → RSt → List Rz → RO
 | 0,s,t => ⟨s.xs,s.pc,s.D,1,0,t⟩
 | m + 1,s,t => if (oneF E n who cf s).why = 0 then runF E n who cf m (oneF E n who cf s).s (t ++ [goR cf s])
  else ⟨(oneF E n who cf s).s.xs,(oneF E n who cf s).kpc,(oneF E n who cf s).s.D,(oneF E n who cf s).why,(oneF E n who cf s).code,t ++ [goR cf s]⟩
structure PS where
 L : List Sta
 t : Int
 D : DS
def cfOf (E : Pays) (who : Nat) : List Value := protC (E.m who) (E.en who) F0.cf 16
def endS (R : RO) (x : Sta) : Sta := ⟨if R.why = 4 then 2 else if R.why = 3 then 1 else x.s,if R.why = 4 then R.code else if R.why = 3 then R.code else x.c,R.kpc,R.xs.set 0 (.int .u32 0)⟩
def endP (P : PS) (who : Nat) (x : Sta) (R : RO) : PS := ⟨P.L.set who (endS R x),passF (P.L.set who (endS R x)) who,R.D⟩
noncomputable def runO (E : Pays) (P : PS) (who : Nat) (x : Sta) (n : Nat) : RO := runF E P.L.length who (cfOf E who) n ⟨x.xs,x.p,P.D⟩ []
def Rz.cells (R : Rz) : List Value := [.int .u32 R.wd,.bool R.tr,.int .u32 R.c1,.int .u32 R.tl,.int .u32 R.at_,.int .i64 R.wi,.bool R.st]
def PS.mv (P : PS) (pv ev lv seen : Value) (tr : List Rz) (xs : List Value) (pc : Int) (cf : Nat) : Mv2 :=
 ⟨pv,ev,seen,lv,tr.length,(tr.map Rz.cells).flatten,P.L,P.t,fun i => (P.D.bx i).map letV,P.D.ll,P.D.used,P.D.ins,P.D.f,xs,pc,cf⟩
theorem row_cut {w : World} {base e sz n : Nat} {v : Value} {xs : List Value} (h : w.ownsRow base e sz v n xs) : ∃ a0 c,v = .slice a0 n c ∧ w.ownsRow base e sz (.slice a0 0 c) 0 [] ∧ (Value.slice a0 0 c).ownBlock = v.ownBlock := by
 rcases h.2 with ⟨rfl,rfl⟩ | ⟨g,cap,cur,rfl,hg,hh,hn,hc,hs,_⟩
 ·exact ⟨none,0,rfl,World.ownsRow_nil _ _ _ _,rfl⟩
 ·exact ⟨some ⟨g,0,none⟩,cap,rfl,⟨by simp,.inr ⟨g,cap,cur,rfl,hg,hh,Nat.zero_le _,hc,hs,by simp⟩⟩,rfl⟩
theorem storeX_FB {f : Nat → Int} (h : FB f) (a : Nat) (x : Int) (n : Nat) : FB (storeX f a x n) := by
 induction n with
 | zero => exact h
 | succ n ih =>
  intro j
  unfold storeX updI
  split
  ·rw [IntKind.wrap_u8];omega
  ·exact ih j
theorem memF_FB {xs : List Value} {pc : Int} {cf : List Value} {f : Nat → Int} {wd o rd at_ b : Int} (h : FB f) : FB (memF xs pc cf f wd o rd at_ b).f := by
 unfold memF
 by_cases h1 : formF o = 4
 ·rw [if_pos h1]
  repeat' split
  all_goals first | exact h | exact storeX_FB h _ _ _
 ·rw [if_neg h1]
  repeat' split
  all_goals exact h
theorem sysR_FB {xs : List Value} {pc : Int} {f : Nat → Int} {wd o nx : Int} (h : FB f) : FB (sysR xs pc f wd o nx).f := by
 unfold sysR
 repeat' split
 all_goals exact h
theorem doF_FB {xs : List Value} {pc : Int} {cf : List Value} {f : Nat → Int} {wd o rd r1 r2 im : Int} (h : FB f) : FB (doF xs pc cf f wd o rd r1 r2 im).f := by
 unfold doF
 repeat' split
 all_goals first | exact h | exact memF_FB h | exact sysR_FB h
theorem stepF_FB {xs : List Value} {pc : Int} {cf : List Value} {f : Nat → Int} (h : FB f) : FB (stepF xs pc cf f).f := by
 unfold stepF
 repeat' split
 all_goals first | exact h | exact doF_FB h
end Go.Proofs.YtabbklpalbikdaaGreatDoor
end
section
namespace Go.Pt
open Go.RowKit
section
variable {P : Program} {N : Nat} {Γ : Env} {C : World → Prop} {Q : Exit → Act → World → Prop}
theorem St.scope {c : Code} (h : St c P N Γ C (Exit.noGoto Q)) : St (.scope c) P N Γ C Q := St.intro fun a w ha hw => wp_scope_straight (h.elim a w ha hw)
theorem Gt.scopeR (h : Gt N .ret Γ C Q) : Gt N .ret Γ C (Exit.noGoto Q) := Gt.intro fun a w ha hw => h.elim a w ha hw
end
end Go.Pt
namespace Go.Proofs.YtabbklpalbikdaaGreatDoor
open Go.RowKit Go.Pt
def evNo : Value := .agg #[.int .i64 (-1),.int .i64 0,.int .i64 0]
theorem memF_c1 {xs : List Value} {pc : Int} {cf : List Value} {f : Nat → Int} {wd o rd at_ b : Int} : 0 ≤ (memF xs pc cf f wd o rd at_ b).c1 ∧ (memF xs pc cf f wd o rd at_ b).c1 < 4294967296 := by
 unfold memF
 by_cases h1 : formF o = 4
 ·rw [if_pos h1]
  repeat' split
  all_goals exact ⟨by first | omega | (dsimp only;omega),by first | omega | (dsimp only;omega)⟩
 ·rw [if_neg h1]
  repeat' split
  all_goals exact ⟨by first | omega | (dsimp only;omega),by first | omega | (dsimp only;omega)⟩
theorem sysR_c1 {xs : List Value} {pc : Int} {f : Nat → Int} {wd o nx : Int} : 0 ≤ (sysR xs pc f wd o nx).c1 ∧ (sysR xs pc f wd o nx).c1 < 4294967296 := by
 unfold sysR
 repeat' split
 all_goals exact ⟨by first | omega | (dsimp only;omega),by first | omega | (dsimp only;omega)⟩
theorem doF_c1 {xs : List Value} {pc : Int} {cf : List Value} {f : Nat → Int} {wd o rd r1 r2 im : Int} : 0 ≤ (doF xs pc cf f wd o rd r1 r2 im).c1 ∧ (doF xs pc cf f wd o rd r1 r2 im).c1 < 4294967296 := by
 unfold doF
 repeat' split
 all_goals first | exact memF_c1 | exact sysR_c1 | exact ⟨by first | omega | (dsimp only;omega),by first | omega | (dsimp only;omega)⟩
theorem stepF_c1 {xs : List Value} {pc : Int} {cf : List Value} {f : Nat → Int} : 0 ≤ (stepF xs pc cf f).c1 ∧ (stepF xs pc cf f).c1 < 4294967296 := by
 unfold stepF
 repeat' split
 all_goals first | exact doF_c1 | exact ⟨by first | omega | (dsimp only;omega),by first | omega | (dsimp only;omega)⟩
section
variable {E : Pays} {n who : Nat} {cf : List Value}
theorem callO_why (r : (List Value × Int) × DS) (pc : Int) : (callO r pc).why = 0 ∨ (callO r pc).why = 2 ∨ (callO r pc).why = 3 := by
 unfold callO
 split
 ·exact .inr (.inr rfl)
 ·split
  ·exact .inr (.inl rfl)
  ·exact .inl rfl
theorem oneF_why (s : RSt) : (oneF E n who cf s).why = 0 ∨ (oneF E n who cf s).why = 2 ∨ (oneF E n who cf s).why = 3 ∨ (oneF E n who cf s).why = 4 := by
 unfold oneF
 split
 ·exact .inl rfl
 ·split
  ·exact .inr (.inr (.inr rfl))
  ·rcases callO_why (callD E n who (goR cf s).xs (s.D.mem (goR cf s).f)) s.pc with h | h | h
   ·exact .inl h
   ·exact .inr (.inl h)
   ·exact .inr (.inr (.inl h))
theorem runF_why (m : Nat) (s : RSt) (t : List Rz) : (runF E n who cf m s t).why = 1 ∨ (runF E n who cf m s t).why = 2 ∨ (runF E n who cf m s t).why = 3 ∨ (runF E n who cf m s t).why = 4 := by
 induction m generalizing s t with
 | zero => exact .inl rfl
 | succ m ih =>
  unfold runF
  split
  ·exact ih _ _
  ·rename_i h
   rcases oneF_why (E := E) (n := n) (who := who) (cf := cf) s with h' | h' | h' | h'
   ·exact absurd h' h
   ·exact .inr (.inl h')
   ·exact .inr (.inr (.inl h'))
   ·exact .inr (.inr (.inr h'))
theorem runF_len (m : Nat) (s : RSt) (t : List Rz) : t.length ≤ (runF E n who cf m s t).tr.length ∧ (runF E n who cf m s t).tr.length ≤ t.length + m ∧ ((runF E n who cf m s t).why = 1 → (runF E n who cf m s t).tr.length = t.length + m) := by
 induction m generalizing s t with
 | zero => exact ⟨Nat.le_refl _,Nat.le_refl _,fun _ => rfl⟩
 | succ m ih =>
  unfold runF
  split
  ·obtain ⟨h1,h2,h3⟩ := ih (oneF E n who cf s).s (t ++ [goR cf s])
   rw [List.length_append,List.length_singleton] at h1 h2 h3
   exact ⟨by omega,by omega,fun h => by have := h3 h;omega⟩
  ·rename_i h
   refine ⟨by simp,by simp,fun h' => ?_⟩
   simp only at h'
   rcases oneF_why (E := E) (n := n) (who := who) (cf := cf) s with h0 | h0 | h0 | h0
   ·exact absurd h0 h
   ·rw [h0] at h';cases h'
   ·rw [h0] at h';cases h'
   ·rw [h0] at h';cases h'
theorem runF_go {m : Nat} {s : RSt} {t : List Rz} (hk : t.length < m) (h : (oneF E n who cf s).why = 0) : runF E n who cf (m - t.length) s t = runF E n who cf (m - (t ++ [goR cf s]).length) (oneF E n who cf s).s (t ++ [goR cf s]) := by
 rw [show m - t.length = (m - (t ++ [goR cf s]).length) + 1 by rw [List.length_append,List.length_singleton];omega]
 conv => lhs;unfold runF
 rw [if_pos h]
theorem runF_end {m : Nat} {s : RSt} {t : List Rz} (hk : t.length < m) (h : (oneF E n who cf s).why ≠ 0) :
  runF E n who cf (m - t.length) s t = ⟨(oneF E n who cf s).s.xs,(oneF E n who cf s).kpc,(oneF E n who cf s).s.D,(oneF E n who cf s).why,(oneF E n who cf s).code,t ++ [goR cf s]⟩ := by
 rw [show m - t.length = (m - (t ++ [goR cf s]).length) + 1 by rw [List.length_append,List.length_singleton];omega]
 conv => lhs;unfold runF
 rw [if_neg h]
theorem runF_time {m : Nat} {s : RSt} {t : List Rz} (hk : ¬ t.length < m) : runF E n who cf (m - t.length) s t = ⟨s.xs,s.pc,s.D,1,0,t⟩ := by
 rw [show m - t.length = 0 by omega];rfl
theorem oneF_f {s : RSt} (h : (goR cf s).tr = false) : oneF E n who cf s = ⟨0,0,(goR cf s).pc,⟨(goR cf s).xs,(goR cf s).pc,s.D.mem (goR cf s).f⟩⟩ := by unfold oneF;rw [if_pos h]
theorem oneF_x {s : RSt} (h : (goR cf s).tr = true) (h8 : (goR cf s).c1 ≠ 8) : oneF E n who cf s = ⟨4,(goR cf s).c1,s.pc - s.pc % 4,⟨(goR cf s).xs,s.pc,s.D.mem (goR cf s).f⟩⟩ := by unfold oneF;rw [if_neg (by rw [h];decide),if_pos h8]
theorem oneF_c {s : RSt} (h : (goR cf s).tr = true) (h8 : (goR cf s).c1 = 8) : oneF E n who cf s = callO (callD E n who (goR cf s).xs (s.D.mem (goR cf s).f)) s.pc := by unfold oneF;rw [if_neg (by rw [h];decide),if_neg (fun k => k h8)]
end
theorem Rg.regI {xs : List Value} (h : Rg xs) {r : Nat} (hr : r < 32) : xs[r]? = some (.int .u32 (Go.Proofs.YtabbklpalbikdaaGreatDoor.regI xs r)) ∧ 0 ≤ Go.Proofs.YtabbklpalbikdaaGreatDoor.regI xs r ∧ Go.Proofs.YtabbklpalbikdaaGreatDoor.regI xs r < 4294967296 := by
 obtain ⟨z,hz,h1,h2⟩ := h.2 r hr
 have e : Go.Proofs.YtabbklpalbikdaaGreatDoor.regI xs r = z := by unfold Go.Proofs.YtabbklpalbikdaaGreatDoor.regI;rw [Int.toNat_natCast,hz]
 rw [e];exact ⟨hz,h1,h2⟩
theorem dueF (st : Int) : dueOf 0 st 128 0 = false := by unfold dueOf;rw [show decide (bits .and .u32 (bits .and .u32 128 0) 128 ≠ 0) = false by decide];rfl
end Go.Proofs.YtabbklpalbikdaaGreatDoor
end
section
namespace Go.Pt
theorem LOver.pre {xs ys r : List Value} (h : xs.length = ys.length) : LOver (xs ++ r) ys (ys ++ r) := by
 have k := LOver.left (xs := xs) (ys := ys) (r := r) (Nat.le_of_eq h.symm)
 rwa [← h,List.drop_length,List.append_nil] at k
end Go.Pt
namespace Go.Proofs.YtabbklpalbikdaaGreatDoor
open Go.RowKit Go.Pt
def evV (who : Nat) (R : RO) : Value := .agg #[.int .i64 who,.int .i64 R.tr.length,.int .i64 R.why]
theorem set_pre {cf r : List Value} {i : Nat} {v : Value} (h : i < cf.length) : (cf ++ r).set i v = cf.set i v ++ r := by
 rw [List.set_append];rw [if_pos h]
theorem protS_pre (n : Nat) (en : Nat → Int × Int × Int) (cf r : List Value) (i : Nat) (h : 16 + i < cf.length) : protS n en (cf ++ r) i = protS n en cf i ++ r := by
 unfold protS
 split
 ·rw [set_pre ky,set_pre zx,set_pre zx,set_pre zx]
 ·rw [set_pre ky,set_pre zx]
theorem protC_pre (n : Nat) (en : Nat → Int × Int × Int) (cf r : List Value) : ∀ i,16 + i ≤ cf.length → protC n en (cf ++ r) i = protC n en cf i ++ r
 | 0,_ => rfl
 | i + 1,h => by
  unfold protC
  rw [protC_pre n en cf r i ky,protS_pre _ _ _ _ _ (by rw [protC_len];omega)]
theorem cfOf_len (E : Pays) (who : Nat) : (cfOf E who).length = 32 := by unfold cfOf;rw [protC_len];rfl
def OwnN (w : World) (v v' : Value) : Prop := ∀ k,v'.ownBlock = some k → v.ownBlock = some k ∨ w.heap.size ≤ k
theorem _root_.Go.Pt.Hp.onS {S : Nat → Prop} {w0 w w' : World} {H : List Blk} (h : Hp w H w') (u : Upd S w0 w) (hH : ∀ x ∈ H,S x.b) : Upd S w0 w' := u.comp h.upd fun k _ hs => hs.elim id fun y => Classical.byContradiction fun hn => y (Off.of fun x hx e => hn (e ▸ hH x hx))
theorem _root_.Go.Pt.Hp.on0 {S : Nat → Prop} {w0 w w' : World} (h : Hp w [] w') (u : Upd S w0 w) : Upd S w0 w' := h.onS u fun x hx => by cases hx
theorem _root_.Go.Pt.Hp.on1 {S : Nat → Prop} {w0 w w' : World} {a : Blk} (h : Hp w [a] w') (u : Upd S w0 w) (ha : S a.b) : Upd S w0 w' := h.onS u fun x hx => by
 rcases List.mem_cons.1 hx with rfl | hx
 ·exact ha
 ·cases hx
theorem _root_.Go.Pt.Hp.on2 {S : Nat → Prop} {w0 w w' : World} {a b : Blk} (h : Hp w [a,b] w') (u : Upd S w0 w) (ha : S a.b) (hb : S b.b) : Upd S w0 w' := h.onS u fun x hx => by
 rcases List.mem_cons.1 hx with rfl | hx
 ·exact ha
 ·rcases List.mem_cons.1 hx with rfl | hx
  ·exact hb
  ·cases hx
theorem _root_.Go.Pt.Hp.on3 {S : Nat → Prop} {w0 w w' : World} {a b c : Blk} (h : Hp w [a,b,c] w') (u : Upd S w0 w) (ha : S a.b) (hb : S b.b) (hc : S c.b) : Upd S w0 w' := h.onS u fun x hx => by
 rcases List.mem_cons.1 hx with rfl | hx
 ·exact ha
 ·rcases List.mem_cons.1 hx with rfl | hx
  ·exact hb
  ·rcases List.mem_cons.1 hx with rfl | hx
   ·exact hc
   ·cases hx
theorem _root_.Go.Pt.Hp.on4 {S : Nat → Prop} {w0 w w' : World} {a b c d : Blk} (h : Hp w [a,b,c,d] w') (u : Upd S w0 w) (ha : S a.b) (hb : S b.b) (hc : S c.b) (hd : S d.b) : Upd S w0 w' := h.onS u fun x hx => by
 rcases List.mem_cons.1 hx with rfl | hx
 ·exact ha
 ·rcases List.mem_cons.1 hx with rfl | hx
  ·exact hb
  ·rcases List.mem_cons.1 hx with rfl | hx
   ·exact hc
   ·rcases List.mem_cons.1 hx with rfl | hx
    ·exact hd
    ·cases hx
theorem kd_prot (n : Nat) (en : Nat → Int × Int × Int) {cs : List Value} (h : Kd fkd 34 cs) : ∀ i,i ≤ 16 → Kd fkd 34 (protC n en cs i)
 | 0,_ => h
 | i + 1,hi => by
  have k := kd_prot n en h i ky
  have e1 : fkd i = .u8 := by unfold fkd;rw [if_pos ky]
  have e2 : fkd (16 + i) = .u32 := by unfold fkd;rw [if_neg ky,if_pos ky]
  unfold protC protS
  split
  ·exact (((k.set e1).set e2).set e1).set e2
  ·exact (k.set e1).set e2
theorem run_step {w w' : World} {base : Nat} {I : Mi} {M : Mv2} {F : Fs} {R : Rz} {v : Value} (k : RunS w base I M F) (hO : OutR w' I.h M.cf I.cM M.pc F R v) (u : Upd (fun b => b = I.h ∨ b = M.cf ∨ b = I.cM) w w') :
  ∃ pc2 F2,RunS w' base I {M with xs := R.xs,pc := pc2,f := R.f} F2 ∧ F2.mie = F.mie ∧ F2.mip = F.mip ∧ F2.cf = F.cf ∧ (R.tr = false → pc2 = R.pc) ∧ (R.tr = true → F2.ep = M.pc - M.pc % 4) := by
 rcases hO.2 with ⟨ht,s',_,_,_,hS⟩ | ⟨hf,hS⟩
 ·exact ⟨_,_,k.stp hS u,rfl,rfl,rfl,fun h => (by rw [ht] at h;cases h),fun _ => rfl⟩
 ·exact ⟨_,_,k.stp hS u,rfl,rfl,rfl,fun _ => rfl,fun h => (by rw [hf] at h;cases h)⟩
theorem MonS.offT {w : World} {base : Nat} {I : Mi} {M : Mv2} (k : MonS w base I M) {b : Nat} {cs : Array Value} (hb : w.heap[b]? = some (.cells cs 70 (0,0))) (hs : ∀ c,M.seen.ownBlock = some c → c ≠ b) : ∀ x,MonF I M x → x ≠ b := by
 obtain ⟨n1,n2,n3,n4,n5,n6,n7,n8,n9,n10,n11,n12,n13⟩ := k.off hb
 rintro x (rfl | rfl | rfl | rfl | rfl | rfl | rfl | rfl | rfl | rfl | h | h | h)
 ·exact n1 ze
 ·exact n2 ze
 ·exact n3 ze
 ·exact n4 ze
 ·exact n5 ze
 ·exact n6 ze
 ·exact n7 ze
 ·exact n8 ze
 ·exact n9 ze
 ·exact n10 ze
 ·exact n11 x h
 ·exact n12 ze x h
 ·exact hs x h
theorem endS4 (xs : List Value) (kpc : Int) (D : DS) (code : Int) (tr : List Rz) (x : Sta) : endS ⟨xs,kpc,D,4,code,tr⟩ x = ⟨2,code,kpc,xs.set 0 (.int .u32 0)⟩ := by unfold endS;rfl
theorem endS3 (xs : List Value) (kpc : Int) (D : DS) (code : Int) (tr : List Rz) (x : Sta) : endS ⟨xs,kpc,D,3,code,tr⟩ x = ⟨1,code,kpc,xs.set 0 (.int .u32 0)⟩ := by unfold endS;rfl
theorem endS2 (xs : List Value) (kpc : Int) (D : DS) (code : Int) (tr : List Rz) (x : Sta) : endS ⟨xs,kpc,D,2,code,tr⟩ x = ⟨x.s,x.c,kpc,xs.set 0 (.int .u32 0)⟩ := by unfold endS;rfl
theorem endS1 (xs : List Value) (kpc : Int) (D : DS) (code : Int) (tr : List Rz) (x : Sta) : endS ⟨xs,kpc,D,1,code,tr⟩ x = ⟨x.s,x.c,kpc,xs.set 0 (.int .u32 0)⟩ := by unfold endS;rfl
structure Tau where
 (w1 : World) (s : RSt) (lv seen : Value) (tr : List Rz) (F : Fs)
structure RunI (w : World) (base : Nat) (I : Mi) (M0 : Mv2) (P : PS) (pv ev : Value) (E : Pays) (w1 : World) (s : RSt) (lv seen : Value) (tr : List Rz) (cf : Nat) (F : Fs) : Prop where
 run : RunS w1 base I ((⟨P.L,P.t,s.D⟩ : PS).mv pv ev lv seen tr s.xs s.pc cf) F
 env : EnvS w1 base P.L.length pv ev E
 dok : DOk s.D P.L.length
 up : Upd (KF w I M0) w w1
 own : OwnN w M0.lv lv ∧ OwnN w M0.seen seen
 cf : w.heap.size ≤ cf
 mie : F.mie = 128 ∧ F.mip = 0
theorem mRun (base : Nat) (I : Mi) (P : PS) (pv ev lv seen : Value) (tr : List Rz) (xs : List Value) (pc : Int) (cf0 : Nat) (E : Pays) (n who : Nat) (x : Sta) (w : World)
  (hM : MonS w base I (P.mv pv ev lv seen tr xs pc cf0)) (hb : base ≤ w.heap.size) (hE : EnvS w base P.L.length pv ev E) (hD : DOk P.D P.L.length) (hw : P.t = who) (hx : P.L[who]? = some x) (hn : 1 ≤ n ∧ n ≤ 100000) :
  Calls Tryz.prog 16 #[.pointer (some ⟨I.m,0,none⟩),.int .i64 (n : Int)] w fun e w' => e = .returned (evV who (runO E P who x n)) ∧
   ∃ lv' seen' xs' pc' cf',MonS w' base I ((endP P who x (runO E P who x n)).mv pv ev lv' seen' (runO E P who x n).tr xs' pc' cf') ∧ DOk (runO E P who x n).D P.L.length ∧ Upd (KF w I (P.mv pv ev lv seen tr xs pc cf0)) w w' ∧ OwnN w lv lv' ∧ OwnN w seen seen' := by
 obtain ⟨R,hR⟩ : ∃ R,runO E P who x n = R := ⟨_,rfl⟩
 rw [hR]
 have hd1 : decide ((n : Int) < 1) = false := decide_eq_false ky
 have hd2 : decide ((who : Int) < 0) = false := decide_eq_false ky
 have hTn := fun wq (k : WardS wq I.wd I.sa P.L P.t) => wTurn I.wd I.sa P.L P.t wq k
 rw [hw,if_neg (by omega : ¬ (who : Int) < 0)] at hTn
 have hwl : who < P.L.length := (List.getElem?_eq_some_iff.1 hx).1
 have hlts := hM.lts
 obtain ⟨l1,l2,l3,l4,l5,l6,l7,l8,l9,l10,l11,l12,l13⟩ := hlts
 have q2 : w.cell? ⟨I.m,2,none⟩ = some (.pointer (some ⟨I.wd,0,none⟩)) := cell_of hM.mm rfl
 have hxo : StaOk x := hM.ward.2.1 x (List.mem_of_getElem? hx)
 have hx32 : x.xs.length = 32 := hxo.1.1
 have hb0 := hb
 have nmh : I.m ≠ I.h := (hM.off hM.hart.2).1 ze
 have hl32 : xs.length = 32 := hM.hart.1
 refine enter (args := [_,_]) (Γ := [(0,_),(1,_)]) Tryz.func16 Tryz.ntmps16 rfl odq (.cons rfl (.cons rfl .nil)) ?_
 repeat' first | apply St.scope | (apply Wl.loadO;exact rfl;exact rfl;exact zw;exact q5) | refine Wl.move rfl rfl ?_ | (apply Wl.on;exact rfl;exact rfl;exact ka) | refine Wl.nilCheck rfl rfl ?_ | (apply Wl.pickF;exact rfl;exact rfl;exact ka;exact rfl) | refine Wl.fieldAddrZ rfl rfl ?_ | refine Wl.eqlPN rfl rfl rfl ?_ | refine Wl.lss rfl rfl rfl ?_ | (apply Wl.alloc;exact rfl;intro c hc ho) | apply Wl.nil | apply St.seq | apply St.region | (apply St.condF;exact rfl;exact ka) | apply St.skip | apply Gt.next
 apply Wl.callQ
 exact rfl
 (focus repeat constructor)
 ·intro wq hq
  exact hq.q (hTn wq (hw ▸ (hM.hp hq kb).ward))
 generalize c = c4 at *
 have hc4 : w.heap.size ≤ c4 := by assumption
 repeat' first | (apply Wl.loadO;exact rfl;exact rfl;exact zw;exact q5) | refine Wl.move rfl rfl ?_ | refine Wl.assign rfl rfl ?_ | refine Wl.nilCheck rfl rfl ?_ | refine Wl.fieldAddrZ rfl rfl ?_ | refine Wl.lss rfl rfl rfl ?_ | apply Wl.nil | apply St.seq | apply St.region | (apply St.condF;exact rfl;exact ka) | apply St.skip | apply Gt.next
 apply Wl.callQ
 exact rfl
 (focus repeat constructor)
 ·intro wq hq
  exact hq.q (wStatus I.wd I.sa P.L P.t who x wq (hM.hp hq kb).ward hx)
 have hxl : x.cells.length = 35 := hxo.len
 have hx1 := hxo.one
 repeat' first | (apply Wl.storeA (xs := x.cells);exact rfl;exact rfl;exact hxl;exact hx1;exact ke;exact .z (LOver.whole (by rw [hxl];exact rfl))) | (apply Wl.alloc;exact rfl;intro c hc ho) | apply Wl.nil | apply St.seq | apply Gt.next
 generalize c = c6 at *
 have hc6 : w.heap.size ≤ c6 := by assumption
 have hc46 : c4 ≠ c6 := ho.1
 refine St.cls (fun _ h' => Hp.open h' hM.hart.2 (by exact ⟨by simp only;omega,by simp only;omega,trivial⟩)) ?_
 refine St.tree (fun w' => w'.heap[I.m]? = some (.cells #[.pointer (some ⟨I.h,0,none⟩),.pointer (some ⟨I.d,0,none⟩),.pointer (some ⟨I.wd,0,none⟩),seen] 130 (0,0)) ∧ w'.heap[c6]? = some (.cells x.cells.toArray 44 (0,0))) mixed (fun _ h' => ⟨Hp.drew h',(Hp.drew h').upd.heap hM.mm fun y => y ⟨fun e => nmh e.symm,by simp only;omega,by simp only;omega,trivial⟩,(Hp.drew h').own.at (.tail _ (.head _))⟩) ?_
 refine Mt.pm 0 ?_
 refine Mt.pm 4 ?_
 refine Mt.pz 8 ?_
 refine Mt.pz 10 ?_
 refine Mt.pn 1 ?_
 refine Mt.pn 5 ?_
 refine Mt.pu 9 ?_
 apply Wl.loadAF (xs := x.xs);exact rfl;exact rfl;exact hx32;(intro w' h' j v hj;rw [addLit];exact cell_of h'.2 (by rw [show 0 + 3 + j = j + 3 by omega];exact hj));apply Wl.nilB
 refine Mt.pu 11 ?_
 apply Wl.loadF;exact rfl;exact rfl;(intro w' h';first | exact cell_of h'.1 rfl | exact cell_of h'.2 rfl);apply Wl.nilB
 refine Mt.pf 2 ?_
 refine Mt.pf 6 ?_
 refine Mt.pu 3 ?_
 apply Wl.loadF;exact rfl;exact rfl;(intro w' h';first | exact cell_of h'.1 rfl | exact cell_of h'.2 rfl);apply Wl.nilB
 refine Mt.pu 7 ?_
 apply Wl.loadF;exact rfl;exact rfl;(intro w' h';first | exact cell_of h'.1 rfl | exact cell_of h'.2 rfl);apply Wl.nilB
 refine Mt.pn 12 ?_
 refine Mt.pf 13 ?_
 refine Mt.e1 14 ?_
 apply Wl.storeA (xs := x.xs)
 ·exact rfl
 ·exact rfl
 ·exact hx32
 ·exact hxo.1.one
 ·exact ke
 ·exact .z (LOver.pre (hl32.trans hx32.symm))
 apply Wl.nil
 refine Mt.backE (fun _ h' => ⟨h'.upd.heap hM.mm fun y => y ⟨fun e => nmh e.symm,by simp only;omega,by simp only;omega,trivial⟩,h'.own.at (.tail _ (.head _))⟩) ?_
 refine Mt.pn 15 ?_
 refine Mt.pz 16 ?_
 refine Mt.e1 17 ?_
 apply Wl.storeHi 0
 ·exact rfl
 ·exact rfl
 ·exact rfl
 ·exact ke
 ·exact hx32
 ·exact rfl
 ·exact kx
 apply Wl.nil
 refine Mt.backE (fun _ h' => ⟨h'.upd.heap hM.mm fun y => y ⟨fun e => nmh e.symm,by simp only;omega,by simp only;omega,trivial⟩,h'.own.at (.tail _ (.head _))⟩) ?_
 refine Mt.toGt kg ?_
 repeat' first | apply St.seq | apply Gt.next
 have hNF : ∀ b,MonF I (P.mv pv ev lv seen tr xs pc cf0) b → b < w.heap.size := fun b hb => (hM.lt b hb).2
 have hKFb : ∀ b,KF w I (P.mv pv ev lv seen tr xs pc cf0) b → base ≤ b := fun b hb => hb.elim (fun h => (hM.lt b h).1) fun h => Nat.le_trans hb0 h
 have hKh : KF w I (P.mv pv ev lv seen tr xs pc cf0) I.h := .inl (.inr (.inl rfl))
 obtain ⟨SH,hSHd⟩ : ∃ SH : Nat → Prop,SH = fun b => b = I.h ∨ w.heap.size ≤ b := ⟨_,rfl⟩
 have hSHh : SH I.h := by rw [hSHd];exact .inl rfl
 have hSHn : ∀ b,w.heap.size ≤ b → SH b := fun b hb => by rw [hSHd];exact .inr hb
 have hSHo : ∀ b,b < w.heap.size → b ≠ I.h → ¬ SH b := fun b hb hn hs => by rw [hSHd] at hs;exact hs.elim hn fun h => by omega
 have hSHm : ∀ b,MonF I (P.mv pv ev lv seen tr xs pc cf0) b → SH b → b = I.h ∨ b = I.cM := fun b hb hs => by
  have := hNF b hb
  rw [hSHd] at hs
  exact hs.elim .inl fun h => by omega
 have hSHk : ∀ b,SH b → KF w I (P.mv pv ev lv seen tr xs pc cf0) b := fun b hs => by
  rw [hSHd] at hs
  exact hs.elim (fun e => .inl (.inr (.inl e))) .inr
 have nhc : I.cM ≠ I.h := (hM.off hM.hart.2).2.2.2.2.2.2.2.2.2.1 ze
 refine St.reb (H' := [⟨c4,[.int .i64 0,.int .i64 0,.int .i64 0],35⟩]) fun w1 h1 => ⟨⟨h1.own.at (.tail _ (.tail _ (.head _))),trivial⟩,⟨trivial,trivial⟩,?_⟩
 have u1 : Upd SH w w1 := Hp.on3 h1 (Upd.refl _ _) hSHh (hSHn _ hc6) (hSHn _ hc4)
 have z1 := u1.size
 have M1 : MonS w1 base I ((⟨P.L,P.t,P.D⟩ : PS).mv pv ev lv seen tr x.xs x.p cf0) := hM.stp (cf' := cf0) ⟨hx32,h1.own.at (.head _)⟩ (u1.heap hM.mem (hSHo _ l10 nhc)) hxo.1 hxo.2.2 u1 hSHm
 refine St.cls (fun _ h' => Hp.open h' M1.hart.2 (by exact ⟨by simp only;omega,trivial⟩)) ?_
 refine St.tree (fun w' => w'.heap[I.m]? = some (.cells #[.pointer (some ⟨I.h,0,none⟩),.pointer (some ⟨I.d,0,none⟩),.pointer (some ⟨I.wd,0,none⟩),seen] 130 (0,0))) mixed (fun _ h' => ⟨Hp.drew h',(Hp.on2 (Hp.drew h') (Upd.refl SH w1) hSHh (hSHn _ hc4)).heap M1.mm (hSHo _ l1 nmh)⟩) ?_
 refine Mt.pm 0 ?_
 refine Mt.pn 1 ?_
 refine Mt.pf 2 ?_
 refine Mt.pu 3 ?_
 apply Wl.loadF;exact rfl;exact rfl;(intro w' h';exact cell_of h' rfl);apply Wl.nilB
 refine Mt.e1 4 ?_
 apply Wl.callC
 ·exact rfl
 ·exact ke
 intro wq hq
 have zq := hq.upd.size
 refine (fnewX wq).mono ?_
 rintro e w2 ⟨cf,rfl,hF2,gcf,u2⟩
 have z2 := u2.size
 have hlc4 := hq.own.lt (x := ⟨c4,[.int .i64 0,.int .i64 0,.int .i64 0],35⟩) (.tail _ (.head _))
 have hq2 := Hp.restD hq u2 (by simp only [List.mem_cons,List.not_mem_nil,or_false,forall_eq_or_imp,forall_eq];simp only at hlc4;omega)
 have u12 : Upd SH w1 w2 := (Hp.on2 hq (Upd.refl SH w1) hSHh (hSHn _ hc4)).comp u2 fun k _ hs => hs.elim id fun h => hSHn _ ky
 refine ⟨_,_,rfl,hq2,?_⟩
 apply Wl.nil
 refine Mt.backE (fun _ h' => (Hp.on2 h' u12 hSHh (hSHn _ hc4)).heap M1.mm (hSHo _ l1 nmh)) ?_
 refine Mt.pn 5 ?_
 refine Mt.pz 6 ?_
 refine Mt.e1 7 ?_
 apply Wl.storeHi 1
 ·exact rfl
 ·exact rfl
 ·exact rfl
 ·exact ke
 ·exact hx32
 ·exact rfl
 ·exact kx
 apply Wl.nil
 refine Mt.backE (fun _ h' => (Hp.on2 h' u12 hSHh (hSHn _ hc4)).heap M1.mm (hSHo _ l1 nmh)) ?_
 refine Mt.toGt kg ?_
 repeat' first | apply St.seq | apply Gt.next
 simp only at hlc4
 refine St.reb (H' := [⟨c4,[.int .i64 0,.int .i64 0,.int .i64 0],35⟩]) fun w3 h3 => ⟨⟨h3.own.at (.tail _ (.head _)),trivial⟩,⟨trivial,trivial⟩,?_⟩
 have u13 : Upd SH w1 w3 := Hp.on2 h3 u12 hSHh (hSHn _ hc4)
 have M3 : MonS w3 base I ((⟨P.L,P.t,P.D⟩ : PS).mv pv ev lv seen tr x.xs x.p cf) := M1.stp (cf' := cf) ⟨hx32,h3.own.at (.head _)⟩ (u13.heap M1.mem (hSHo _ l10 nhc)) hxo.1 hxo.2.2 u13 hSHm
 have F3 : FX w3 cf F0 := hF2.upd h3.upd fun y => y ⟨by simp only;omega,by simp only;omega,trivial⟩
 have z3 := h3.upd.size
 have U3 : Upd (KF w I (P.mv pv ev lv seen tr xs pc cf0)) w w3 := (u1.mono fun b _ h => hSHk b h).comp u13 fun k _ hs => hs.elim id (hSHk k)
 obtain ⟨eb,eo,ec,hev,heb,hent⟩ := hE.ent
 obtain ⟨xb,xo,xc,e1,hxb,hX⟩ := hent who hwl
 have e1' : w.cell? ⟨eb,eo + (who : Int).toNat,none⟩ = some (.slice (some ⟨xb,xo,none⟩) (E.m who) xc) := by rw [Int.toNat_natCast];exact e1
 have hen : ¬ KF w I (P.mv pv ev lv seen tr xs pc cf0) eb := fun h => by have := hKFb _ h;omega
 have hm16 := hE.ok.m who hwl
 have hBK : ∀ w',Hp w3 [⟨c4,[.int .i64 0,.int .i64 0,.int .i64 0],35⟩] w' → MonS w' base I ((⟨P.L,P.t,P.D⟩ : PS).mv pv ev lv seen tr x.xs x.p cf) ∧ w'.cell? ⟨eb,eo + (who : Int).toNat,none⟩ = some (.slice (some ⟨xb,xo,none⟩) (E.m who) xc) := fun w' h' =>
  ⟨M3.upd (Hp.on1 h' (Upd.refl (fun b => w.heap.size ≤ b) w3) hc4) fun b hb => Nat.not_le.2 (hNF b hb),(Hp.on1 h' U3 (.inr hc4)).cell e1' hen⟩
 have hev' : ev = .slice (some ⟨eb,eo,none⟩) P.L.length ec := hev
 refine St.tree (fun w' => MonS w' base I ((⟨P.L,P.t,P.D⟩ : PS).mv pv ev lv seen tr x.xs x.p cf) ∧ w'.cell? ⟨eb,eo + (who : Int).toNat,none⟩ = some (.slice (some ⟨xb,xo,none⟩) (E.m who) xc)) mixed (fun _ h' => ⟨Hp.drew h',hBK _ (Hp.drew h')⟩) ?_
 refine Mt.pm 0 ?_
 refine Mt.pm 7 ?_
 refine Mt.pm 14 ?_
 refine Mt.pn 1 ?_
 refine Mt.pn 8 ?_
 refine Mt.pf 2 ?_
 refine Mt.pz 9 ?_
 refine Mt.pu 3 ?_
 apply Wl.loadF;exact rfl;exact rfl;(intro w' h';first | exact cell_of h'.1.mm rfl | exact h'.1.hart.at1.2.1 | exact (cell_of h'.1.dd rfl).trans (congrArg some hev') | exact h'.2);apply Wl.nilB
 refine Mt.pu 10 ?_
 apply Wl.loadF;exact rfl;exact rfl;(intro w' h';first | exact cell_of h'.1.mm rfl | exact h'.1.hart.at1.2.1 | exact (cell_of h'.1.dd rfl).trans (congrArg some hev') | exact h'.2);apply Wl.nilB
 refine Mt.pn 4 ?_
 refine Mt.pn 11 ?_
 refine Mt.pz 5 ?_
 refine Mt.pz 12 ?_
 refine Mt.pu 6 ?_
 apply Wl.loadF;exact rfl;exact rfl;(intro w' h';first | exact cell_of h'.1.mm rfl | exact h'.1.hart.at1.2.1 | exact (cell_of h'.1.dd rfl).trans (congrArg some hev') | exact h'.2);apply Wl.nilB
 refine Mt.pu 13 ?_
 apply Wl.loadF;exact rfl;exact rfl;(intro w' h';first | exact cell_of h'.1.mm rfl | exact h'.1.hart.at1.2.1 | exact (cell_of h'.1.dd rfl).trans (congrArg some hev') | exact h'.2);apply Wl.nilB
 refine Mt.pu 15 ?_
 refine Wl.indexAddr1 rfl rfl rfl ?_ ?_;constructor <;> omega;apply Wl.nilB
 refine Mt.pu 16 ?_
 apply Wl.loadF;exact rfl;exact rfl;(intro w' h';first | exact cell_of h'.1.mm rfl | exact h'.1.hart.at1.2.1 | exact (cell_of h'.1.dd rfl).trans (congrArg some hev') | exact h'.2);apply Wl.nilB
 refine Mt.e1 17 ?_
 apply Wl.callC
 ·exact rfl
 ·exact ke
 intro wq hq
 have zq := hq.upd.size
 have hFq := F3.2.2
 have hFq' := hq.upd.heap hFq (fun y => y ⟨by simp only;omega,trivial⟩)
 refine (fprotectX cf (E.m who) xc (some ⟨xb,xo,none⟩) (E.en who) 3 0 0 0 0 0 0 0 0 (F0.cf ++ [Value.int .u64 0,Value.int .u64 0]) (KF w I (P.mv pv ev lv seen tr xs pc cf0)) w wq rfl hm16 hFq' (Hp.on1 hq U3 (.inr hc4)) (.inr ky) hX (fun b o e h => by cases e;have := hKFb _ h;omega)).mono ?_
 rintro e w4 ⟨rfl,hc4f,u4⟩
 have z4 := u4.size
 rw [protC_pre _ _ _ _ _ ze] at hc4f
 have F4 : FX w4 cf {F0 with cf := cfOf E who} := ⟨cfOf_len E who,by have k := kd_prot (E.m who) (E.en who) (cs := F0.cf ++ [Value.int .u64 0,Value.int .u64 0]) fzero_kd 16 (Nat.le_refl _);rw [protC_pre _ _ _ _ _ ze] at k;exact k,hc4f⟩
 have hlc := hq.own.lt (x := ⟨c4,[.int .i64 0,.int .i64 0,.int .i64 0],35⟩) (.head _)
 have hq4 := Hp.restD hq u4 kb
 have U4 : Upd (KF w I (P.mv pv ev lv seen tr xs pc cf0)) w w4 := (Hp.on1 hq U3 (.inr hc4)).comp u4 fun k _ hs => hs.elim id fun e => .inr ky
 have u34 : Upd (fun b => w.heap.size ≤ b) w3 w4 := (Hp.on1 hq (Upd.refl (fun b => w.heap.size ≤ b) w3) hc4).comp u4 fun k _ hs => hs.elim id fun e => by omega
 refine ⟨_,_,rfl,hq4,?_⟩
 apply Wl.nil
 refine Mt.backE (fun _ h' => ⟨M3.upd (Hp.on1 h' u34 hc4) fun b hb => Nat.not_le.2 (hNF b hb),(Hp.on1 h' U4 (.inr hc4)).cell e1' hen⟩) ?_
 refine Mt.toGt kg ?_
 have M4 : MonS w4 base I ((⟨P.L,P.t,P.D⟩ : PS).mv pv ev lv seen tr x.xs x.p cf) := M3.upd u34 fun b hb => Nat.not_le.2 (hNF b hb)
 obtain ⟨d32,d33,d34⟩ := M4.hart.at1
 have g0 : w4.cell? ⟨I.m,0,none⟩ = some (.pointer (some ⟨I.h,0,none⟩)) := cell_of M4.mm rfl
 repeat' first | (apply Wl.loadO;exact rfl;exact rfl;exact zw;exact q5) | refine Wl.move rfl rfl ?_ | refine Wl.nilCheck rfl rfl ?_ | refine Wl.fieldAddr0 rfl rfl ?_ | refine Wl.fieldAddrZ rfl rfl ?_ | apply St.seq | apply St.region | apply Gt.next
 apply Wl.callC
 ·exact rfl
 ·exact ke
 intro wq hq
 have zq := hq.upd.size
 refine (fwriteX cf _ wq (F4.upd hq.upd fun y => y ⟨by simp only;omega,trivial⟩)).mono ?_
 rintro e w5 ⟨rfl,F5,u5⟩
 have z5 := u5.size
 have hq5 := Hp.restD hq u5 kb
 have U5 : Upd (KF w I (P.mv pv ev lv seen tr xs pc cf0)) w w5 := (Hp.on1 hq U4 (.inr hc4)).comp u5 fun k _ hs => hs.elim id fun e => .inr ky
 have M5 : MonS w5 base I ((⟨P.L,P.t,P.D⟩ : PS).mv pv ev lv seen tr x.xs x.p cf) := M4.upd ((Hp.on1 hq (Upd.refl (fun b => w.heap.size ≤ b) w4) hc4).comp u5 (T := fun b => w.heap.size ≤ b) fun k _ hs => hs.elim id fun e => by omega) fun b hb => Nat.not_le.2 (hNF b hb)
 have z45 : w4.heap.size ≤ w5.heap.size := Nat.le_trans zq z5
 have lcf := F5.lt
 refine ⟨_,_,rfl,hq5,?_⟩
 clear hq zq
 obtain ⟨a0,cS,hse,hrow,hown⟩ := row_cut M5.seen
 have hse' : seen = .slice a0 tr.length cS := hse
 have g3 : w5.cell? ⟨I.m,3,none⟩ = some (.slice a0 tr.length cS) := by rw [← hse'];exact cell_of M5.mm rfl
 refine Wl.cls (fun _ h' => Hp.open h' M5.mm (by exact ⟨by simp only;omega,trivial⟩)) ?_
 repeat' first | (apply Wl.loadH;exact rfl;exact rfl;exact .head _;exact (congrArg some hse')) | (apply Wl.store;exact rfl;exact rfl;exact rfl;exact ke;exact kx) | refine Wl.move rfl rfl ?_ | refine Wl.nilCheck rfl rfl ?_ | refine Wl.fieldAddrZ rfl rfl ?_ | (apply Wl.storeA;exact rfl;exact rfl;exact rfl;exact rfl;exact ke;exact kf) | (apply Wl.buildS;exact rfl;exact ki;exact kc) | (apply Wl.alloc;exact rfl;intro c hc ho) | (apply Wl.slice0;exact rfl;exact rfl;exact qv;exact qv;(first | exact fun _ => rfl | exact fun h => nomatch h);omega;omega) | apply Wl.nil | apply St.seq | apply St.region | apply Gt.next
 generalize c = c7 at *
 have hc7 : w5.heap.size ≤ c7 := by assumption
 refine St.reb (H' := [⟨c7,[.int .i64 (who : Int),.int .i64 0,.int .i64 1],35⟩,⟨c4,[.int .i64 0,.int .i64 0,.int .i64 0],35⟩]) fun w6 h6 => ⟨⟨h6.own.at (.head _),h6.own.at (.tail _ (.tail _ (.head _))),trivial⟩,⟨⟨by simp only;omega,trivial⟩,trivial,trivial⟩,?_⟩
 subst hse'
 have n13 := (M5.off M5.mm).2.2.2.2.2.2.2.2.2.2.2.2 ze
 have hsl : ∀ k,(Value.slice a0 tr.length cS).ownBlock = some k → k < w.heap.size := fun k hk => hNF k (.inr (.inr (.inr (.inr (.inr (.inr (.inr (.inr (.inr (.inr (.inr (.inr hk))))))))))))
 have U6 : Upd (KF w I (P.mv pv ev lv (.slice a0 tr.length cS) tr xs pc cf0)) w w6 := Hp.on3 h6 U5 (.inr kz) (.inl (.inl rfl)) (.inr hc4)
 have V6 : Upd (fun b => b = I.m ∨ b = c7 ∨ b = c4) w5 w6 := Hp.on3 h6 (Upd.refl _ _) (.inr (.inl rfl)) (.inl rfl) (.inr (.inr rfl))
 have M6 : MonS w6 base I ((⟨P.L,P.t,P.D⟩ : PS).mv pv ev lv (.slice a0 0 cS) [] x.xs x.p cf) := M5.snn (h6.own.at (.tail _ (.head _)))
  (ownsRow_upd hrow V6 fun k hk hs => by
   have h1 := n13 k (hown ▸ hk)
   have h2 := hsl k (hown ▸ hk)
   omega) V6 fun b hb hs => by
   have := hNF b hb
   rcases hs with h | h | h
   ·exact .inl h
   ·omega
   ·omega
 have E6 : EnvS w6 base P.L.length pv ev E := hE.upd (U6.mono fun b _ h => hKFb b h)
 have R6 : RunS w6 base I ((⟨P.L,P.t,P.D⟩ : PS).mv pv ev lv (.slice a0 0 cS) [] x.xs x.p cf) {F0 with cf := cfOf E who,mie := 128} :=
  ⟨M6,F5.upd V6 (fun hs => by omega),⟨(by show base ≤ cf;omega),hE.pos⟩,⟨(by show (0 : Int) ≤ 0;decide),(by show (0 : Int) < 4294967296;decide)⟩,E6.tab⟩
 have z6 := V6.size
 have h76 : c7 < w6.heap.size := lt_of_block (h6.own.at (.head _))
 clear M1 M3 M4 M5 F3 F4 F5 hF2 hBK hX e1 e1' u12 u13 u34
 repeat' first | apply St.label | apply St.seq | apply St.block | apply Gt.next
 refine St.loop (σ := Tau) (fun τ => RunI w base I (P.mv pv ev lv (.slice a0 tr.length cS) tr xs pc cf0) P pv ev E τ.w1 τ.s τ.lv τ.seen τ.tr cf τ.F ∧ τ.F.cf = cfOf E who ∧ τ.tr.length ≤ n ∧ runF E P.L.length who (cfOf E who) (n - τ.tr.length) τ.s τ.tr = R ∧ τ.w1.heap[c7]? = some (.cells #[.int .i64 (who : Int),.int .i64 (τ.tr.length : Int),.int .i64 1] 35 (0,0)) ∧ τ.w1.heap[c4]? = some (.cells #[.int .i64 0,.int .i64 0,.int .i64 0] 35 (0,0)))
  (fun _ => [(0,.pointer (some ⟨I.m,0,none⟩)),(1,.int .i64 (n : Int)),(4,.pointer (some ⟨c4,0,none⟩)),(5,.int .i64 (who : Int)),(7,.pointer (some ⟨c7,0,none⟩))])
  (fun τ => Hp τ.w1 [⟨c7,[.int .i64 (who : Int),.int .i64 (τ.tr.length : Int),.int .i64 1],35⟩,⟨c4,[.int .i64 0,.int .i64 0,.int .i64 0],35⟩]) (fun τ => n - τ.tr.length) ⟨w6,⟨x.xs,x.p,P.D⟩,lv,.slice a0 0 cS,[],{F0 with cf := cfOf E who,mie := 128}⟩
  ⟨⟨R6,E6,hD,U6,⟨fun k hk => .inl hk,fun k hk => .inl (hown ▸ hk)⟩,by omega,rfl,rfl⟩,rfl,Nat.zero_le _,hR,h6.own.at (.head _),h6.own.at (.tail _ (.tail _ (.head _)))⟩ kw (fun _ h => h) ?_
 clear M6 E6 R6 U6 V6 U5 U4 U3 h6 hq5 hq4 hq2 h3 h1 hrow n13
 rintro ⟨w1,s,lv1,se1,tr1,F1⟩ ⟨hI,hcf1,hk,hrun,hb7,hb4⟩
 simp only at hI hcf1 hk hrun hb7 hb4 ⊢
 have h71 := lt_of_block hb7
 obtain ⟨hRun,hE1,hD1,hU1,⟨ho1,ho2⟩,hcfn,hmie,hmip⟩ := hI
 have hM1 := hRun.mon
 have hz1 := hU1.size
 have nm : cf ≠ I.m := fun e => hRun.ne _ (.inl rfl) e.symm
 have nh : cf ≠ I.h := fun e => hRun.ne _ (.inr (.inl rfl)) e.symm
 have nc : cf ≠ I.cM := fun e => hRun.ne _ (.inr (.inr (.inr (.inr (.inr (.inr (.inr (.inr (.inr (.inl rfl)))))))))) e.symm
 have hpos := hE.pos
 have hoffs : ∀ {wz : World} {M' : Mv2} {cs : List Value} {b : Nat},MonS wz base I M' → wz.heap[b]? = some (.cells cs.toArray 35 (0,0)) → ∀ y,MonF I M' y → y ≠ b := fun k hb => k.offF hb ze
 have o7 := hoffs hM1 hb7
 have o4 := hoffs hM1 hb4
 by_cases hlt : tr1.length < n
 rotate_left
 ·have hdk : decide ((tr1.length : Int) < (n : Int)) = false := decide_eq_false ky
  rw [runF_time hlt] at hrun
  have htl : tr1.length = n := by omega
  repeat' first | refine Wl.move rfl rfl ?_ | refine Wl.fieldAddrZ rfl rfl ?_ | (apply Wl.loadH;exact rfl;exact rfl;exact ke;exact rfl) | (apply Wl.eqlIs;exact rfl;exact rfl;exact rfl;exact kv) | refine Wl.lss rfl rfl rfl ?_ | apply Wl.nil | apply St.seq | apply St.region | (apply St.condT;exact rfl;exact ka) | (apply St.condF;exact rfl;exact ka) | apply St.exit | apply Gt.next | apply Gt.thenExit | apply Gt.inExit
  apply Wl.callC
  ·exact rfl
  ·exact ke
  intro wq hq
  have R0 : RunS wq base I ((⟨P.L,P.t,s.D⟩ : PS).mv pv ev lv1 se1 tr1 s.xs s.pc cf) F1 := hRun.upd (S := fun b => b = c7 ∨ b = c4) (Hp.on2 hq (Upd.refl _ _) (.inl rfl) (.inr rfl)) (fun b hb hs => hs.elim (o7 b hb) (o4 b hb)) (fun hs => by change cf = c7 ∨ cf = c4 at hs;omega) (fun hs => by change 0 = c7 ∨ 0 = c4 at hs;omega)
  refine (mTimer base I _ F1 wq R0 hmie hmip).mono ?_
  rintro e wt ⟨rfl,hMt,ut⟩
  have hqt := Hp.restD hq ut zy
  have Ut : Upd (KF w I (P.mv pv ev lv (.slice a0 tr.length cS) tr xs pc cf0)) w wt := (Hp.on2 hq hU1 (.inr kz) (.inr hc4)).comp ut fun k _ hs => hs.elim id fun h => h.elim (fun e => .inl (.inr (.inl e))) fun h => h.elim (fun e => .inr (by have e' : _ = cf := e;omega)) fun e => .inl (.inr (.inr (.inr (.inr (.inr (.inr (.inr (.inr (.inr (.inl e))))))))))
  refine ⟨_,_,rfl,hqt,?_⟩
  repeat' first | apply Wl.nil | apply St.seq | apply Gt.next
  have t7 := hMt.offF (b := c7) (t := 35) (hqt.own.at (.head _)) ze
  have t4 := hMt.offF (b := c4) (t := 35) (hqt.own.at (.tail _ (.head _))) ze
  have hxt : s.xs.length = 32 := hMt.hart.1
  have tM : ∀ {w' : World},Hp wt [⟨c7,[.int .i64 (who : Int),.int .i64 (tr1.length : Int),.int .i64 1],35⟩,⟨c4,[.int .i64 0,.int .i64 0,.int .i64 0],35⟩] w' → MonS w' base I ((⟨P.L,P.t,s.D⟩ : PS).mv pv ev lv1 se1 tr1 s.xs s.pc cf) := fun h' => hMt.upd (S := fun b => b = c7 ∨ b = c4) (Hp.on2 h' (Upd.refl _ _) (.inl rfl) (.inr rfl)) fun b hb hs => hs.elim (t7 b hb) (t4 b hb)
  have tU : ∀ {w' : World},Hp wt [⟨c7,[.int .i64 (who : Int),.int .i64 (tr1.length : Int),.int .i64 1],35⟩,⟨c4,[.int .i64 0,.int .i64 0,.int .i64 0],35⟩] w' → Upd (KF w I (P.mv pv ev lv (.slice a0 tr.length cS) tr xs pc cf0)) w w' := fun h' => Hp.on2 h' Ut (.inr kz) (.inr hc4)
  refine St.tree (fun w' => w'.heap[I.m]? = some (.cells #[.pointer (some ⟨I.h,0,none⟩),.pointer (some ⟨I.d,0,none⟩),.pointer (some ⟨I.wd,0,none⟩),se1] 130 (0,0)) ∧ HH w' I.h cf (.pointer (some ⟨I.cM,0,none⟩)) s.xs s.pc) mixed (fun _ h' => ⟨Hp.drew h',(tM (Hp.drew h')).mm,(tM (Hp.drew h')).hart⟩) ?_
  refine Mt.pm 0 ?_
  refine Mt.pm 4 ?_
  refine Mt.pm 11 ?_
  refine Mt.pn 1 ?_
  refine Mt.pn 5 ?_
  refine Mt.pn 12 ?_
  refine Mt.pz 2 ?_
  refine Mt.pf 6 ?_
  refine Mt.pf 13 ?_
  refine Mt.pu 3 ?_
  apply Wl.loadF;exact rfl;exact rfl;(intro w' h';first | exact cell_of h'.1 rfl | exact h'.2.at1.1);apply Wl.nilB
  refine Mt.pu 7 ?_
  apply Wl.loadF;exact rfl;exact rfl;(intro w' h';first | exact cell_of h'.1 rfl | exact h'.2.at1.1);apply Wl.nilB
  refine Mt.pu 14 ?_
  apply Wl.loadF;exact rfl;exact rfl;(intro w' h';first | exact cell_of h'.1 rfl | exact h'.2.at1.1);apply Wl.nilB
  refine Mt.pn 8 ?_
  refine Mt.pn 15 ?_
  refine Mt.pf 9 ?_
  refine Mt.pz 16 ?_
  refine Mt.pu 10 ?_
  apply Wl.loadAF (xs := s.xs);exact rfl;exact rfl;exact hxt;(intro w' h' j v hj;rw [addLit];exact cell_of h'.2.2 qj);apply Wl.nilB
  refine Mt.pu 17 ?_
  apply Wl.loadF;exact rfl;exact rfl;(intro w' h';first | exact cell_of h'.1 rfl | exact h'.2.at1.1);apply Wl.nilB
  refine Mt.e1 18 ?_
  apply Wl.callC
  ·exact rfl
  ·exact ke
  intro wq hq
  have tq := tM hq
  refine (wKeep I.wd I.sa P.L who x s.xs s.pc wq (hw ▸ tq.ward) hx tq.rg.1 tq.rg.2).mono ?_
  rintro e wk ⟨rfl,hWk,uk⟩
  have tk := tq.wrd hWk (List.length_set ..) (uk.mono fun k _ h => .inl h)
  have zk := uk.size
  have hqk := Hp.restD hq uk zy
  have Uk : Upd (KF w I (P.mv pv ev lv (.slice a0 tr.length cS) tr xs pc cf0)) w wk := (tU hq).comp uk fun k _ hs => hs.elim id fun e => .inl (.inr (.inr (.inr (.inr (.inl e)))))
  have k7 := tk.offF (b := c7) (t := 35) (hqk.own.at (.head _)) ze
  have k4 := tk.offF (b := c4) (t := 35) (hqk.own.at (.tail _ (.head _))) ze
  have kM := fun {w' : World} (h' : Hp wk [⟨c7,[.int .i64 (who : Int),.int .i64 (tr1.length : Int),.int .i64 1],35⟩,⟨c4,[.int .i64 0,.int .i64 0,.int .i64 0],35⟩] w') => tk.upd (S := fun b => b = c7 ∨ b = c4) (Hp.on2 h' (Upd.refl _ _) (.inl rfl) (.inr rfl)) fun b hb hs => hs.elim (k7 b hb) (k4 b hb)
  refine ⟨_,_,rfl,hqk,?_⟩
  apply Wl.nil
  refine Mt.backE (fun _ h' => ⟨(kM h').mm,(kM h').hart⟩) ?_
  refine Mt.toGt kg ?_
  have gk : wk.cell? ⟨I.m,2,none⟩ = some (.pointer (some ⟨I.wd,0,none⟩)) := cell_of tk.mm rfl
  repeat' first | (apply Wl.loadO;exact rfl;exact rfl;exact zw;exact q5) | refine Wl.move rfl rfl ?_ | refine Wl.nilCheck rfl rfl ?_ | refine Wl.fieldAddrZ rfl rfl ?_ | apply St.seq | apply St.region | apply Gt.next
  apply Wl.callC
  ·exact rfl
  ·exact ke
  intro wq hq
  have tq := kM hq
  refine (wPass I.wd I.sa _ who wq tq.ward (by rw [List.length_set];omega)).mono ?_
  rintro e wp ⟨rfl,hWp,up⟩
  have tp := tq.wrd hWp rfl (up.mono fun k _ h => .inr h)
  have zp := up.size
  have hqp := Hp.restD hq up zy
  have Up : Upd (KF w I (P.mv pv ev lv (.slice a0 tr.length cS) tr xs pc cf0)) w wp := (Hp.on2 hq Uk (.inr kz) (.inr hc4)).comp up fun k _ hs => hs.elim id fun e => .inl (.inr (.inr (.inr (.inl e))))
  have p7 := tp.offF (b := c7) (t := 35) (hqp.own.at (.head _)) ze
  have p4 := tp.offF (b := c4) (t := 35) (hqp.own.at (.tail _ (.head _))) ze
  refine ⟨_,_,rfl,hqp,?_⟩
  repeat' first | apply Gt.scopeR | (apply Wl.storeA;exact rfl;exact rfl;exact rfl;exact rfl;exact ke;exact .z (LOver.whole rfl)) | (apply Gt.outC';exact rfl;infer_instance;exact rfl;exact ke;exact ke;intro w' hp) | (apply Wl.loadAH;exact rfl;exact rfl;exact ke;exact ke) | apply Wl.nil | apply St.seq | apply St.region | apply St.ret | apply Gt.next
  have tf := tp.upd (S := fun b => b = c7 ∨ b = c4) (Hp.on2 hp (Upd.refl _ _) (.inl rfl) (.inr rfl)) fun b hb hs => hs.elim (p7 b hb) (p4 b hb)
  have Uf : Upd (KF w I (P.mv pv ev lv (.slice a0 tr.length cS) tr xs pc cf0)) w w' := Hp.on2 hp Up (.inr kz) (.inr hc4)
  subst hrun
  refine ⟨rfl,lv1,se1,s.xs,s.pc,cf,?_,hD1,Uf,ho1,ho2⟩
  unfold endP
  rw [endS1]
  exact tf
 have hdk : decide ((tr1.length : Int) < (n : Int)) = true := decide_eq_true ky
 obtain ⟨r,hcfb,hset⟩ := hRun.fx.mode
 obtain ⟨d32,d33,d34⟩ := hM1.hart.at1
 have g0 : w1.cell? ⟨I.m,0,none⟩ = some (.pointer (some ⟨I.h,0,none⟩)) := cell_of hM1.mm rfl
 refine St.cls (fun _ h' => Hp.open h' hcfb (by exact ⟨kz,kz,trivial⟩)) ?_
 repeat' first | (apply Wl.loadO;exact rfl;exact rfl;exact zw;exact q5) | refine Wl.move rfl rfl ?_ | refine Wl.nilCheck rfl rfl ?_ | refine Wl.fieldAddr0 rfl rfl ?_ | refine Wl.fieldAddrZ rfl rfl ?_ | (apply Wl.loadH;exact rfl;exact rfl;exact ke;exact rfl) | refine Wl.lss rfl rfl rfl ?_ | (apply Wl.store;exact rfl;exact rfl;exact rfl;exact ke;exact kx) | apply Wl.nil | apply St.seq | apply St.block | apply St.region | (apply St.condT;exact rfl;exact ka) | apply St.skip | apply Gt.next
 apply Wl.callC
 ·exact rfl
 ·exact ke
 intro wq hq
 have uq : Upd (fun b => b = cf ∨ b = c7 ∨ b = c4) w1 wq := Hp.on3 hq (Upd.refl _ _) (.inl rfl) (.inr (.inl rfl)) (.inr (.inr rfl))
 have Rq : RunS wq base I ((⟨P.L,P.t,s.D⟩ : PS).mv pv ev lv1 se1 tr1 s.xs s.pc cf) { F1 with md := 0 } := ⟨hM1.upd uq fun b hb hs => hs.elim (fun e => hRun.ne b hb e) fun hs => hs.elim (o7 b hb) (o4 b hb),hset 0 wq (hq.own.at (.head _)),hRun.ge,hRun.tv,hRun.tab.upd uq fun hs => by omega⟩
 obtain ⟨R1,hR1⟩ : ∃ R1,goR (cfOf E who) s = R1 := ⟨_,rfl⟩
 have hR1' : stepF s.xs s.pc F1.cf s.D.f = R1 := by rw [← hR1,hcf1];rfl
 refine (stepX I.h cf I.cM s.xs s.pc { F1 with md := 0 } s.D.f wq Rq.ss rfl (by show dueOf 0 F1.st F1.mie F1.mip = false;rw [hmie,hmip];exact dueF _)).mono ?_
 rintro e w2 ⟨v,rfl,hO,u2⟩
 have hO1 : OutR w2 I.h cf I.cM s.pc { F1 with md := 0 } R1 v := by rw [← hR1'];exact hO
 have hv : v = .agg R1.cells.toArray := hO1.1
 subst hv
 have Rg1 : Rg s.xs := hM1.rg.1
 have hpc1 : 0 ≤ s.pc ∧ s.pc < 4294967296 := hM1.rg.2
 obtain ⟨pc2,F2,R2,m1,m2,m3,m4,m5⟩ := run_step Rq hO1 u2
 have m1' : F2.mie = 128 := m1.trans hmie
 have m2' : F2.mip = 0 := m2.trans hmip
 have m3' : F2.cf = cfOf E who := m3.trans hcf1
 have e7 := u2.heap (hq.own.at (.tail _ (.head _))) (fun hs => by change c7 = I.h ∨ c7 = cf ∨ c7 = I.cM at hs;omega)
 have e4 := u2.heap (hq.own.at (.tail _ (.tail _ (.head _)))) (fun hs => by change c4 = I.h ∨ c4 = cf ∨ c4 = I.cM at hs;omega)
 have hq2 : Hp w2 [⟨c7,[.int .i64 (who : Int),.int .i64 (tr1.length : Int),.int .i64 1],35⟩,⟨c4,[.int .i64 0,.int .i64 0,.int .i64 0],35⟩] w2 := ⟨Upd.refl _ _,⟨e7,e4,trivial⟩,⟨⟨by simp only;omega,trivial⟩,trivial,trivial⟩⟩
 have U2 : Upd (KF w I (P.mv pv ev lv (.slice a0 tr.length cS) tr xs pc cf0)) w w2 := (Hp.on3 hq hU1 (.inr hcfn) (.inr kz) (.inr hc4)).comp u2 fun k _ hs => hs.elim id fun h => h.elim (fun e => .inl (.inr (.inl e))) fun h => h.elim (fun e => .inr (by have e' : _ = cf := e;omega)) fun e => .inl (.inr (.inr (.inr (.inr (.inr (.inr (.inr (.inr (.inr (.inl e))))))))))
 have z2 : c7 < w2.heap.size := lt_of_block e7
 have hcl2 : cf < w2.heap.size := R2.fx.lt
 have hM2 := R2.mon
 have t7 := hoffs hM2 e7
 have t4 := hoffs hM2 e4
 refine ⟨_,_,rfl,hq2,?_⟩
 clear hq uq hO hO1 hset hcfb d32 d33 d34 g0
 repeat' first | (apply Wl.storeA (xs := R1.cells);exact rfl;exact rfl;exact rfl;exact rfl;exact ke;exact .z (LOver.whole rfl)) | (apply Wl.alloc;exact rfl;intro c hc ho) | apply Wl.nil | apply Gt.next
 generalize c = c8 at *
 have zw2 : w.heap.size ≤ w2.heap.size := U2.size
 have hc8 : w2.heap.size ≤ c8 := by assumption
 apply St.seq
 repeat' first | refine Wl.fieldAddrZ rfl rfl ?_ | (apply Wl.loadH;exact rfl;exact rfl;exact ke;exact rfl) | (refine Wl.addI rfl rfl rfl ?_ ?_;constructor <;> omega) | (apply Wl.store;exact rfl;exact rfl;exact rfl;exact ke;exact kx) | apply Wl.nil | apply St.region | apply Gt.next
 refine St.cut (σ := World × Value) (fun τ => RunS τ.1 base I ((⟨P.L,P.t,s.D.mem R1.f⟩ : PS).mv pv ev lv1 τ.2 (tr1 ++ [R1]) R1.xs pc2 cf) F2 ∧ Upd (KF w I (P.mv pv ev lv (.slice a0 tr.length cS) tr xs pc cf0)) w τ.1 ∧ OwnN w (.slice a0 tr.length cS) τ.2 ∧ (∀ k,τ.2.ownBlock = some k → k ≠ c8) ∧ τ.1.heap[c8]? = some (.cells R1.cells.toArray 70 (0,0)) ∧ τ.1.heap[c7]? = some (.cells #[.int .i64 (who : Int),.int .i64 ((tr1.length : Int) + 1),.int .i64 1] 35 (0,0)) ∧ τ.1.heap[c4]? = some (.cells #[.int .i64 0,.int .i64 0,.int .i64 0] 35 (0,0)))
  (fun _ => [(0,.pointer (some ⟨I.m,0,none⟩)),(1,.int .i64 (n : Int)),(4,.pointer (some ⟨c4,0,none⟩)),(5,.int .i64 (who : Int)),(7,.pointer (some ⟨c7,0,none⟩)),(8,.pointer (some ⟨c8,0,none⟩))]) (fun τ => Hp τ.1 [⟨c8,R1.cells,70⟩,⟨c7,[.int .i64 (who : Int),.int .i64 ((tr1.length : Int) + 1),.int .i64 1],35⟩,⟨c4,[.int .i64 0,.int .i64 0,.int .i64 0],35⟩]) ?_ ?_
 ·refine St.cls (fun _ h' => Hp.open h' hM2.mm (by exact ⟨kz,kz,kz,trivial⟩)) ?_
  refine St.tree (fun w' => w'.heap[c8]? = some (.cells R1.cells.toArray 70 (0,0))) mixed (fun _ h' => ⟨Hp.drew h',(Hp.drew h').own.at (.tail _ (.head _))⟩) ?_
  refine Mt.pm 0 ?_
  refine Mt.pm 1 ?_
  refine Mt.pu 5 ?_
  apply Wl.loadAF (xs := R1.cells);exact rfl;exact rfl;exact rfl;(intro w' h' j v hj;rw [addLit];exact cell_of h' (by rw [Nat.zero_add];exact hj));apply Wl.nilB
  refine Mt.pn 2 ?_
  refine Mt.pz 3 ?_
  refine Mt.eff2 (i := 4) (j := 6) kg zd zd ?_ ?_
  ·repeat' first | (apply Wl.loadH;exact rfl;exact rfl;exact ke;exact rfl) | apply Wl.nil
   refine Mt.backE (fun _ h' => by first | exact h'.own.at (.tail _ (.head _)) | exact h'.own.at (.tail _ (.tail _ (.head _)))) ?_
   refine Mt.e1 6 ?_
   repeat' first | (apply Wl.lit;exact rfl;exact ki;exact rfl;exact rfl;exact kj;intro c hc ho) | apply Wl.nil
   refine Mt.backE (fun _ h' => by first | exact h'.own.at (.tail _ (.head _)) | exact h'.own.at (.tail _ (.tail _ (.head _)))) ?_
   refine Mt.e1 7 ?_
   apply Wl.appendT (base := base) (n := tr1.length) (m := 1) (sz := 7) (e := 70) (xs := (tr1.map Rz.cells).flatten)
   ·exact rfl
   ·exact rfl
   ·exact rfl
   ·assumption
   ·exact rfl
   ·exact hM2.seen
   ·exact fun k hk => ⟨fun e => (hM2.off hM2.mm).2.2.2.2.2.2.2.2.2.2.2.2 ze k hk e.symm,fun e => by have := (hM2.seen.ge k hk).2;simp only at e;omega,fun e => t7 k (.inr (.inr (.inr (.inr (.inr (.inr (.inr (.inr (.inr (.inr (.inr (.inr hk)))))))))))) e.symm,fun e => t4 k (.inr (.inr (.inr (.inr (.inr (.inr (.inr (.inr (.inr (.inr (.inr (.inr hk)))))))))))) e.symm,trivial⟩
   ·exact rfl
   ·exact rfl
   ·decide
   ·unfold maxLen;omega
   ·omega
   ·omega
   intro v' w5 ho5 u5 _ hoff5
   have hov := ho5.one
   have s5 := u5.size
   apply Wl.nil
   refine Mt.backE (fun _ h' => by first | exact h'.own.at (.tail _ (.head _)) | exact h'.own.at (.tail _ (.tail _ (.head _)))) ?_
   refine Mt.pn 8 ?_
   refine Mt.pz 9 ?_
   refine Mt.e1 10 ?_
   apply Wl.store
   ·exact rfl
   ·exact rfl
   ·first | exact hov | exact rfl
   ·exact ke
   ·exact kx
   apply Wl.nil
   refine Mt.backE (fun _ h' => by first | exact h'.own.at (.tail _ (.head _)) | exact h'.own.at (.tail _ (.tail _ (.head _)))) ?_
   refine Mt.toGt kg ?_
   refine Gt.reb (H' := [⟨c8,R1.cells,70⟩,⟨c7,[.int .i64 (who : Int),.int .i64 ((tr1.length : Int) + 1),.int .i64 1],35⟩,⟨c4,[.int .i64 0,.int .i64 0,.int .i64 0],35⟩]) fun w6 h6 => ⟨⟨h6.own.at (.tail _ (.head _)),h6.own.at (.tail _ (.tail _ (.head _))),h6.own.at (.tail _ (.tail _ (.tail _ (.head _)))),trivial⟩,⟨⟨kz,kz,trivial⟩,⟨kz,trivial⟩,trivial,trivial⟩,?_⟩
   obtain ⟨S6,hS6⟩ : ∃ S6 : Nat → Prop,S6 = fun b => b = I.m ∨ se1.ownBlock = some b ∨ b = c8 ∨ b = c7 ∨ b = c4 := ⟨_,rfl⟩
   have V6 : Upd S6 w2 w6 := by
    rw [hS6]
    refine u5.comp h6.upd fun k hk hs => ?_
    have key : ¬ Off [⟨I.m,[],0⟩,⟨c8,[],0⟩,⟨c7,[],0⟩,⟨c4,[],0⟩] k → k = I.m ∨ se1.ownBlock = some k ∨ k = c8 ∨ k = c7 ∨ k = c4 := fun hn => Classical.byContradiction fun hc => hn ⟨fun e => hc (.inl e.symm),fun e => hc (.inr (.inr (.inl e.symm))),fun e => hc (.inr (.inr (.inr (.inl e.symm)))),fun e => hc (.inr (.inr (.inr (.inr e.symm)))),trivial⟩
    exact hs.elim (fun hs => hs.elim (fun h => .inr (.inl h)) key) key
   have hsn : ∀ k,se1.ownBlock = some k → MonF I ((⟨P.L,P.t,s.D.mem R1.f⟩ : PS).mv pv ev lv1 se1 tr1 R1.xs pc2 cf) k := fun k hk => .inr (.inr (.inr (.inr (.inr (.inr (.inr (.inr (.inr (.inr (.inr (.inr hk)))))))))))
   have hrow5 : w6.ownsRow base 70 7 v' (tr1 ++ [R1]).length (((tr1 ++ [R1]).map Rz.cells).flatten) := by
    have h := ownsRow_upd ho5 h6.upd fun k hk y => y (hoff5 k hk).1
    rw [List.length_append,List.map_append,List.flatten_append]
    exact h
   have M6 := hM2.snn (h6.own.at (.head _)) hrow5 V6 fun b hb hs => by
    have hl := (hM2.lt b hb).2
    rw [hS6] at hs
    rcases hs with h | h | h | h | h
    ·exact .inl h
    ·exact .inr h
    ·omega
    ·exact absurd h (t7 b hb)
    ·exact absurd h (t4 b hb)
   apply Gt.meet (w6,v')
   ·refine ⟨⟨M6,R2.fx.upd V6 fun hs => ?_,R2.ge,R2.tv,R2.tab.upd V6 fun hs => ?_⟩,?_,?_,fun k hk => fun e => (hoff5 k hk).1.2.1 e.symm,h6.own.at (.tail _ (.head _)),h6.own.at (.tail _ (.tail _ (.head _))),h6.own.at (.tail _ (.tail _ (.tail _ (.head _))))⟩
    ·rw [hS6] at hs
     have hcl : cf < w2.heap.size := R2.fx.lt
     rcases hs with h | h | h | h | h
     ·exact nm h
     ·exact R2.ne _ (hsn _ h) rfl
     all_goals (have h' : cf = _ := h;omega)
    ·rw [hS6] at hs
     rcases hs with h | h | h | h | h
     ·have := hM2.ge.1;omega
     ·have := (hM2.lt _ (hsn _ h)).1;omega
     all_goals omega
    ·refine U2.comp V6 fun k hk hs => hs.elim id fun hs => ?_
     rw [hS6] at hs
     rcases hs with h | h | h | h | h
     ·exact .inl (.inl h)
     ·exact (ho2 k h).elim (fun h => .inl (.inr (.inr (.inr (.inr (.inr (.inr (.inr (.inr (.inr (.inr (.inr (.inr h))))))))))))) .inr
     all_goals exact .inr ky
    ·exact fun k hk => (hoff5 k hk).2.elim (ho2 k) fun h => .inr ky
   ·exact ke
   ·exact fun _ h => h
  ·repeat' first | (apply Wl.lit;exact rfl;exact ki;exact rfl;exact rfl;exact kj;intro c hc ho) | apply Wl.nil
   refine Mt.backE (fun _ h' => by first | exact h'.own.at (.tail _ (.head _)) | exact h'.own.at (.tail _ (.tail _ (.head _)))) ?_
   refine Mt.e1 4 ?_
   repeat' first | (apply Wl.loadH;exact rfl;exact rfl;exact ke;exact rfl) | apply Wl.nil
   refine Mt.backE (fun _ h' => by first | exact h'.own.at (.tail _ (.head _)) | exact h'.own.at (.tail _ (.tail _ (.head _)))) ?_
   refine Mt.e1 7 ?_
   apply Wl.appendT (base := base) (n := tr1.length) (m := 1) (sz := 7) (e := 70) (xs := (tr1.map Rz.cells).flatten)
   ·exact rfl
   ·exact rfl
   ·exact rfl
   ·assumption
   ·exact rfl
   ·exact hM2.seen
   ·exact fun k hk => ⟨fun e => (hM2.off hM2.mm).2.2.2.2.2.2.2.2.2.2.2.2 ze k hk e.symm,fun e => by have := (hM2.seen.ge k hk).2;simp only at e;omega,fun e => t7 k (.inr (.inr (.inr (.inr (.inr (.inr (.inr (.inr (.inr (.inr (.inr (.inr hk)))))))))))) e.symm,fun e => t4 k (.inr (.inr (.inr (.inr (.inr (.inr (.inr (.inr (.inr (.inr (.inr (.inr hk)))))))))))) e.symm,trivial⟩
   ·exact rfl
   ·exact rfl
   ·decide
   ·unfold maxLen;omega
   ·omega
   ·omega
   intro v' w5 ho5 u5 _ hoff5
   have hov := ho5.one
   have s5 := u5.size
   apply Wl.nil
   refine Mt.backE (fun _ h' => by first | exact h'.own.at (.tail _ (.head _)) | exact h'.own.at (.tail _ (.tail _ (.head _)))) ?_
   refine Mt.pn 8 ?_
   refine Mt.pz 9 ?_
   refine Mt.e1 10 ?_
   apply Wl.store
   ·exact rfl
   ·exact rfl
   ·first | exact hov | exact rfl
   ·exact ke
   ·exact kx
   apply Wl.nil
   refine Mt.backE (fun _ h' => by first | exact h'.own.at (.tail _ (.head _)) | exact h'.own.at (.tail _ (.tail _ (.head _)))) ?_
   refine Mt.toGt kg ?_
   refine Gt.reb (H' := [⟨c8,R1.cells,70⟩,⟨c7,[.int .i64 (who : Int),.int .i64 ((tr1.length : Int) + 1),.int .i64 1],35⟩,⟨c4,[.int .i64 0,.int .i64 0,.int .i64 0],35⟩]) fun w6 h6 => ⟨⟨h6.own.at (.tail _ (.head _)),h6.own.at (.tail _ (.tail _ (.head _))),h6.own.at (.tail _ (.tail _ (.tail _ (.head _)))),trivial⟩,⟨⟨kz,kz,trivial⟩,⟨kz,trivial⟩,trivial,trivial⟩,?_⟩
   obtain ⟨S6,hS6⟩ : ∃ S6 : Nat → Prop,S6 = fun b => b = I.m ∨ se1.ownBlock = some b ∨ b = c8 ∨ b = c7 ∨ b = c4 := ⟨_,rfl⟩
   have V6 : Upd S6 w2 w6 := by
    rw [hS6]
    refine u5.comp h6.upd fun k hk hs => ?_
    have key : ¬ Off [⟨I.m,[],0⟩,⟨c8,[],0⟩,⟨c7,[],0⟩,⟨c4,[],0⟩] k → k = I.m ∨ se1.ownBlock = some k ∨ k = c8 ∨ k = c7 ∨ k = c4 := fun hn => Classical.byContradiction fun hc => hn ⟨fun e => hc (.inl e.symm),fun e => hc (.inr (.inr (.inl e.symm))),fun e => hc (.inr (.inr (.inr (.inl e.symm)))),fun e => hc (.inr (.inr (.inr (.inr e.symm)))),trivial⟩
    exact hs.elim (fun hs => hs.elim (fun h => .inr (.inl h)) key) key
   have hsn : ∀ k,se1.ownBlock = some k → MonF I ((⟨P.L,P.t,s.D.mem R1.f⟩ : PS).mv pv ev lv1 se1 tr1 R1.xs pc2 cf) k := fun k hk => .inr (.inr (.inr (.inr (.inr (.inr (.inr (.inr (.inr (.inr (.inr (.inr hk)))))))))))
   have hrow5 : w6.ownsRow base 70 7 v' (tr1 ++ [R1]).length (((tr1 ++ [R1]).map Rz.cells).flatten) := by
    have h := ownsRow_upd ho5 h6.upd fun k hk y => y (hoff5 k hk).1
    rw [List.length_append,List.map_append,List.flatten_append]
    exact h
   have M6 := hM2.snn (h6.own.at (.head _)) hrow5 V6 fun b hb hs => by
    have hl := (hM2.lt b hb).2
    rw [hS6] at hs
    rcases hs with h | h | h | h | h
    ·exact .inl h
    ·exact .inr h
    ·omega
    ·exact absurd h (t7 b hb)
    ·exact absurd h (t4 b hb)
   apply Gt.meet (w6,v')
   ·refine ⟨⟨M6,R2.fx.upd V6 fun hs => ?_,R2.ge,R2.tv,R2.tab.upd V6 fun hs => ?_⟩,?_,?_,fun k hk => fun e => (hoff5 k hk).1.2.1 e.symm,h6.own.at (.tail _ (.head _)),h6.own.at (.tail _ (.tail _ (.head _))),h6.own.at (.tail _ (.tail _ (.tail _ (.head _))))⟩
    ·rw [hS6] at hs
     have hcl : cf < w2.heap.size := R2.fx.lt
     rcases hs with h | h | h | h | h
     ·exact nm h
     ·exact R2.ne _ (hsn _ h) rfl
     all_goals (have h' : cf = _ := h;omega)
    ·rw [hS6] at hs
     rcases hs with h | h | h | h | h
     ·have := hM2.ge.1;omega
     ·have := (hM2.lt _ (hsn _ h)).1;omega
     all_goals omega
    ·refine U2.comp V6 fun k hk hs => hs.elim id fun hs => ?_
     rw [hS6] at hs
     rcases hs with h | h | h | h | h
     ·exact .inl (.inl h)
     ·exact (ho2 k h).elim (fun h => .inl (.inr (.inr (.inr (.inr (.inr (.inr (.inr (.inr (.inr (.inr (.inr (.inr h))))))))))))) .inr
     all_goals exact .inr ky
    ·exact fun k hk => (hoff5 k hk).2.elim (ho2 k) fun h => .inr ky
   ·exact ke
   ·exact fun _ h => h
 rintro ⟨w6,se6⟩ ⟨R6,U6,ho6,hse6,b8,b7,b4⟩
 simp only at R6 U6 ho6 hse6 b8 b7 b4 ⊢
 clear R2 hM2 t7 t4 U2 e7 e4 hq2 hRun hU1 hM1 hE1
 have hM6 := R6.mon
 have o7 := hoffs hM6 b7
 have o4 := hoffs hM6 b4
 have o8 := hM6.offT b8 hse6
 have hl8 := lt_of_block b8
 have z6 := U6.size
 have hD6 : DOk (s.D.mem R1.f) P.L.length := ⟨by rw [← hR1];exact stepF_FB hD1.f,hD1.bx,hD1.used,hD1.ll,hD1.ins⟩
 have mv6 : ∀ {w' : World},Hp w6 [⟨c8,R1.cells,70⟩,⟨c7,[.int .i64 (who : Int),.int .i64 ((tr1.length : Int) + 1),.int .i64 1],35⟩,⟨c4,[.int .i64 0,.int .i64 0,.int .i64 0],35⟩] w' → RunS w' base I ((⟨P.L,P.t,s.D.mem R1.f⟩ : PS).mv pv ev lv1 se6 (tr1 ++ [R1]) R1.xs pc2 cf) F2 := fun h' => R6.upd (S := fun b => b = c8 ∨ b = c7 ∨ b = c4) (Hp.on3 h' (Upd.refl _ _) (.inl rfl) (.inr (.inl rfl)) (.inr (.inr rfl))) (fun b hb hs => hs.elim (o8 b hb) fun hs => hs.elim (o7 b hb) (o4 b hb)) (fun hs => by change cf = c8 ∨ cf = c7 ∨ cf = c4 at hs;have hcl : cf < w2.heap.size := hcl2;omega) (fun hs => by change 0 = c8 ∨ 0 = c7 ∨ 0 = c4 at hs;omega)
 have mu6 : ∀ {w' : World},Hp w6 [⟨c8,R1.cells,70⟩,⟨c7,[.int .i64 (who : Int),.int .i64 ((tr1.length : Int) + 1),.int .i64 1],35⟩,⟨c4,[.int .i64 0,.int .i64 0,.int .i64 0],35⟩] w' → Upd (KF w I (P.mv pv ev lv (.slice a0 tr.length cS) tr xs pc cf0)) w w' := fun h' => Hp.on3 h' U6 (.inr kz) (.inr kz) (.inr hc4)
 cases htr : R1.tr
 ·-- no trap: on
  have hnt : (!R1.tr) = true := by rw [htr];rfl
  obtain rfl := m4 htr
  have hone : oneF E P.L.length who (cfOf E who) s = ⟨0,0,R1.pc,⟨R1.xs,R1.pc,s.D.mem R1.f⟩⟩ := by rw [oneF_f (by rw [hR1];exact htr),hR1]
  have hr2 := runF_go (E := E) (n := P.L.length) (who := who) (cf := cfOf E who) hlt (by rw [hone])
  rw [hone,hR1,hrun] at hr2
  have hlen : ((tr1 ++ [R1]).length : Int) = (tr1.length : Int) + 1 := by rw [List.length_append];rfl
  have hlen' : (tr1 ++ [R1]).length = tr1.length + 1 := by rw [List.length_append];rfl
  repeat' first | refine Wl.assign rfl rfl ?_ | refine Wl.not rfl rfl ?_ | refine Wl.fieldAddrZ rfl rfl ?_ | (apply Wl.loadH;exact rfl;exact rfl;exact ke;exact rfl) | apply Wl.nil | apply St.seq | apply St.block | apply St.region | (apply St.condT;exact rfl;exact ka) | apply St.exit | apply Gt.next | apply Gt.thenExit | apply Gt.inExit | (apply Gt.inOther;exact rfl)
  refine Gt.reb (H' := [⟨c7,[.int .i64 (who : Int),.int .i64 ((tr1.length : Int) + 1),.int .i64 1],35⟩,⟨c4,[.int .i64 0,.int .i64 0,.int .i64 0],35⟩]) fun w7 h7 => ⟨⟨h7.own.at (.tail _ (.head _)),h7.own.at (.tail _ (.tail _ (.head _))),trivial⟩,⟨⟨kz,trivial⟩,trivial,trivial⟩,?_⟩
  refine Gt.round ⟨w7,⟨R1.xs,R1.pc,s.D.mem R1.f⟩,lv1,se6,tr1 ++ [R1],F2⟩ ⟨⟨mv6 h7,hE.upd ((mu6 h7).mono fun b _ h => hKFb b h),hD6,mu6 h7,⟨ho1,ho6⟩,hcfn,m1',m2'⟩,m3',by rw [hlen'];omega,hr2.symm,?_,h7.own.at (.tail _ (.tail _ (.head _)))⟩ (by simp only [hlen'];omega) kw (fun _ h => ?_)
  ·simp only [hlen];exact h7.own.at (.tail _ (.head _))
  ·simp only [hlen];exact h
 have hnt : (!R1.tr) = false := by rw [htr];rfl
 have hep2 := m5 htr
 change F2.ep = s.pc - s.pc % 4 at hep2
 have hepr : 0 ≤ F2.ep ∧ F2.ep < 4294967296 := by rw [hep2];omega
 by_cases h8 : R1.c1 = 8
 rotate_left
 ·have hd8 : decide (R1.c1 ≠ 8) = true := decide_eq_true h8
  have hone : oneF E P.L.length who (cfOf E who) s = ⟨4,R1.c1,s.pc - s.pc % 4,⟨R1.xs,s.pc,s.D.mem R1.f⟩⟩ := by rw [oneF_x (by rw [hR1];exact htr) (by rw [hR1];exact h8),hR1]
  have hr2 := runF_end (E := E) (n := P.L.length) (who := who) (cf := cfOf E who) hlt (by rw [hone];exact (by decide : (4 : Int) ≠ 0))
  rw [hone,hR1,hrun] at hr2
  simp only at hr2
  have hlen : ((tr1 ++ [R1]).length : Int) = (tr1.length : Int) + 1 := by rw [List.length_append];rfl
  have hc1r : 0 ≤ R1.c1 ∧ R1.c1 < 4294967296 := by rw [← hR1];exact stepF_c1
  repeat' first | refine Wl.move rfl rfl ?_ | refine Wl.assign rfl rfl ?_ | refine Wl.not rfl rfl ?_ | refine Wl.fieldAddrZ rfl rfl ?_ | (apply Wl.loadH;exact rfl;exact rfl;exact ke;exact rfl) | refine Wl.neq rfl rfl rfl ?_ | apply Wl.nil | apply St.seq | apply St.block | apply St.region | (apply St.condT;exact rfl;exact ka) | (apply St.condF;exact rfl;exact ka) | apply Gt.next
  apply Wl.callC
  ·exact rfl
  ·exact ke
  intro wq hq
  refine (mKeep base I _ F2 who x wq (mv6 hq) hw hx hepr).mono ?_
  rintro e w9 ⟨rfl,R9,u9⟩
  have hq9 := Hp.restD hq u9 kb
  have U9 : Upd (KF w I (P.mv pv ev lv (.slice a0 tr.length cS) tr xs pc cf0)) w w9 := (mu6 hq).comp u9 fun k _ hs => hs.elim id fun e => .inl (.inr (.inr (.inr (.inr (.inl e)))))
  have hM9 := R9.mon
  have p7 := hoffs hM9 (hq9.own.at (.tail _ (.head _)))
  have p4 := hoffs hM9 (hq9.own.at (.tail _ (.tail _ (.head _))))
  have p8 := hM9.offT (hq9.own.at (.head _)) hse6
  have mv9 : ∀ {w' : World},Hp w9 [⟨c8,R1.cells,70⟩,⟨c7,[.int .i64 (who : Int),.int .i64 ((tr1.length : Int) + 1),.int .i64 1],35⟩,⟨c4,[.int .i64 0,.int .i64 0,.int .i64 0],35⟩] w' → MonS w' base I _ := fun h' => hM9.upd (S := fun b => b = c8 ∨ b = c7 ∨ b = c4) (Hp.on3 h' (Upd.refl _ _) (.inl rfl) (.inr (.inl rfl)) (.inr (.inr rfl))) (fun b hb hs => hs.elim (p8 b hb) fun hs => hs.elim (p7 b hb) (p4 b hb))
  have mu9 : ∀ {w' : World},Hp w9 [⟨c8,R1.cells,70⟩,⟨c7,[.int .i64 (who : Int),.int .i64 ((tr1.length : Int) + 1),.int .i64 1],35⟩,⟨c4,[.int .i64 0,.int .i64 0,.int .i64 0],35⟩] w' → Upd (KF w I (P.mv pv ev lv (.slice a0 tr.length cS) tr xs pc cf0)) w w' := fun h' => Hp.on3 h' U9 (.inr kz) (.inr kz) (.inr hc4)
  refine ⟨_,_,rfl,hq9,?_⟩
  repeat' first | apply Wl.nil | apply St.seq | apply Gt.next
  refine St.tree (fun w' => w'.heap[I.m]? = some (.cells #[.pointer (some ⟨I.h,0,none⟩),.pointer (some ⟨I.d,0,none⟩),.pointer (some ⟨I.wd,0,none⟩),se6] 130 (0,0)) ∧ w'.heap[c8]? = some (.cells R1.cells.toArray 70 (0,0))) mixed (fun _ h' => ⟨Hp.drew h',(mv9 (Hp.drew h')).mm,(Hp.drew h').own.at (.head _)⟩) ?_
  refine Mt.pm 0 ?_
  refine Mt.pz 4 ?_
  refine Mt.pn 1 ?_
  refine Mt.pu 5 ?_
  apply Wl.loadF;exact rfl;exact rfl;(intro w' h';first | exact cell_of h'.1 rfl | exact cell_of h'.2 rfl);apply Wl.nilB
  refine Mt.pz 2 ?_
  refine Mt.pu 3 ?_
  apply Wl.loadF;exact rfl;exact rfl;(intro w' h';first | exact cell_of h'.1 rfl | exact cell_of h'.2 rfl);apply Wl.nilB
  refine Mt.e1 6 ?_
  apply Wl.callC
  ·exact rfl
  ·exact ke
  intro wq hq
  refine (wEnd I.wd I.sa _ who _ 2 R1.c1 wq (mv9 hq).ward (List.getElem?_set_self hwl) hc1r).mono ?_
  rintro e wk ⟨rfl,hWk,uk⟩
  have tk := (mv9 hq).wrd hWk (by unfold endL;rw [List.length_set]) uk
  have hqk := Hp.restD hq uk kb
  have Uk : Upd (KF w I (P.mv pv ev lv (.slice a0 tr.length cS) tr xs pc cf0)) w wk := (mu9 hq).comp uk fun k _ hs => hs.elim id fun h => h.elim (fun e => .inl (.inr (.inr (.inr (.inr (.inl e)))))) fun e => .inl (.inr (.inr (.inr (.inl e))))
  have k7 := hoffs tk (hqk.own.at (.tail _ (.head _)))
  have k4 := hoffs tk (hqk.own.at (.tail _ (.tail _ (.head _))))
  have k8 := tk.offT (hqk.own.at (.head _)) hse6
  refine ⟨_,_,rfl,hqk,?_⟩
  apply Wl.nil
  refine Mt.backE (fun _ h' => ⟨(tk.upd (S := fun b => b = c8 ∨ b = c7 ∨ b = c4) (Hp.on3 h' (Upd.refl _ _) (.inl rfl) (.inr (.inl rfl)) (.inr (.inr rfl))) (fun b hb hs => hs.elim (k8 b hb) fun hs => hs.elim (k7 b hb) (k4 b hb))).mm,h'.own.at (.head _)⟩) ?_
  refine Mt.toGt kg ?_
  repeat' first | apply Gt.scopeR | (apply Wl.storeA;exact rfl;exact rfl;exact rfl;exact rfl;exact ke;exact .z (LOver.whole rfl)) | (apply Gt.outC';exact rfl;infer_instance;exact rfl;exact ke;exact ke;intro w' hp) | refine Wl.fieldAddrZ rfl rfl ?_ | (apply Wl.store;exact rfl;exact rfl;exact rfl;exact ke;exact kx) | (apply Wl.loadAH;exact rfl;exact rfl;exact ke;exact ke) | apply Wl.nil | apply St.seq | apply St.region | apply St.ret | apply Gt.next | apply Gt.thenRet | apply Gt.inRet
  have tf := tk.upd (S := fun b => b = c8 ∨ b = c7 ∨ b = c4) (Hp.on3 hp (Upd.refl _ _) (.inl rfl) (.inr (.inl rfl)) (.inr (.inr rfl))) (fun b hb hs => hs.elim (k8 b hb) fun hs => hs.elim (k7 b hb) (k4 b hb))
  have Uf : Upd (KF w I (P.mv pv ev lv (.slice a0 tr.length cS) tr xs pc cf0)) w w' := Hp.on3 hp Uk (.inr kz) (.inr kz) (.inr hc4)
  subst hr2
  refine ⟨by unfold evV;simp only [hlen],lv1,se6,R1.xs,pc2,cf,?_,hD6,Uf,ho1,ho6⟩
  unfold endP
  rw [endS4]
  unfold endL at tf
  rw [List.set_set,hep2] at tf
  exact tf
 have hd8 : decide (R1.c1 ≠ 8) = false := decide_eq_false (fun h => h h8)
 obtain ⟨CD,hCD⟩ : ∃ CD,callD E P.L.length who R1.xs (s.D.mem R1.f) = CD := ⟨_,rfl⟩
 have hone : oneF E P.L.length who (cfOf E who) s = callO CD s.pc := by rw [oneF_c (by rw [hR1];exact htr) (by rw [hR1];exact h8),hR1,hCD]
 apply St.seq
 repeat' first | apply St.block
 apply St.seq
 repeat' first | refine Wl.assign rfl rfl ?_ | refine Wl.not rfl rfl ?_ | refine Wl.fieldAddrZ rfl rfl ?_ | (apply Wl.loadH;exact rfl;exact rfl;exact ke;exact rfl) | apply Wl.nil | apply St.region | (apply St.condF;exact rfl;exact ka) | apply Gt.next
 apply St.seq
 repeat' first | refine Wl.assign rfl rfl ?_ | refine Wl.fieldAddrZ rfl rfl ?_ | (apply Wl.loadH;exact rfl;exact rfl;exact ke;exact rfl) | (apply Wl.neqIs;exact rfl;exact rfl;exact rfl;exact kv) | apply Wl.nil | apply St.region | (apply St.condF;exact rfl;exact ka) | apply St.skip | apply Gt.next | apply Gt.inNormal
 have hCD' : doA E (s.D.mem R1.f) P.L.length who R1.xs (regI R1.xs 17) (regI R1.xs 10) (regI R1.xs 11) (regI R1.xs 12) = CD := hCD
 have hRg1 : Rg R1.xs := hM6.rg.1
 obtain ⟨i17,r17⟩ : R1.xs[17]? = some (.int .u32 (regI R1.xs 17)) ∧ 0 ≤ regI R1.xs 17 ∧ regI R1.xs 17 < 4294967296 := hRg1.regI (r := 17) ze
 obtain ⟨i10,r10⟩ : R1.xs[10]? = some (.int .u32 (regI R1.xs 10)) ∧ 0 ≤ regI R1.xs 10 ∧ regI R1.xs 10 < 4294967296 := hRg1.regI (r := 10) ze
 obtain ⟨i11,r11⟩ : R1.xs[11]? = some (.int .u32 (regI R1.xs 11)) ∧ 0 ≤ regI R1.xs 11 ∧ regI R1.xs 11 < 4294967296 := hRg1.regI (r := 11) ze
 obtain ⟨i12,r12⟩ : R1.xs[12]? = some (.int .u32 (regI R1.xs 12)) ∧ 0 ≤ regI R1.xs 12 ∧ regI R1.xs 12 < 4294967296 := hRg1.regI (r := 12) ze
 have hn4 : P.L.length ≤ 4 := hM6.ward.2.2.2
 have hDok := doA_ok (a7 := regI R1.xs 17) (a0 := regI R1.xs 10) (a1 := regI R1.xs 11) (a2 := regI R1.xs 12) hE.ok hD6 hwl hn4 hRg1 r10 r11
 rw [hCD'] at hDok
 obtain ⟨hD9,hRg9⟩ := hDok
 have hRl9 : CD.1.1.length = 32 := hRg9.1
 have hDo : ∀ wq : World,w6.heap.size ≤ wq.heap.size → MonS wq base I ((⟨P.L,P.t,s.D.mem R1.f⟩ : PS).mv pv ev lv1 se6 (tr1 ++ [R1]) R1.xs pc2 cf) → EnvS wq base P.L.length pv ev E → Calls Tryz.prog 66 #[.pointer (some ⟨I.d,0,none⟩),.int .i64 (who : Int),.agg R1.xs.toArray] wq fun e w' => ∃ lv',e = .returned (.tuple #[.agg CD.1.1.toArray,.int .i64 CD.1.2]) ∧ MonS w' base I ((⟨P.L,P.t,CD.2⟩ : PS).mv pv ev lv' se6 (tr1 ++ [R1]) R1.xs pc2 cf) ∧ Upd (KF wq I ((⟨P.L,P.t,s.D.mem R1.f⟩ : PS).mv pv ev lv1 se6 (tr1 ++ [R1]) R1.xs pc2 cf)) wq w' ∧ (∀ k,lv'.ownBlock = some k → lv1.ownBlock = some k ∨ wq.heap.size ≤ k) := fun wq hz hm he => by
  rw [← hCD']
  exact dDo base I ((⟨P.L,P.t,s.D.mem R1.f⟩ : PS).mv pv ev lv1 se6 (tr1 ++ [R1]) R1.xs pc2 cf) lv1 E (s.D.mem R1.f) who wq R1.xs _ _ _ _ hm ky he hD6 hwl hRg1.1 hRg1.one i17 i10 i11 i12 r17 r10 r11 r12
 refine St.cut (σ := World × Value × Nat) (fun τ => RunS τ.1 base I ((⟨P.L,P.t,CD.2⟩ : PS).mv pv ev τ.2.1 se6 (tr1 ++ [R1]) R1.xs pc2 cf) F2 ∧ Upd (KF w I (P.mv pv ev lv (.slice a0 tr.length cS) tr xs pc cf0)) w τ.1 ∧ OwnN w lv τ.2.1 ∧ (w.heap.size ≤ τ.2.2 ∧ τ.2.2 ≠ c7 ∧ τ.2.2 ≠ c4 ∧ τ.2.2 ≠ cf) ∧ τ.1.heap[τ.2.2]? = some (.cells CD.1.1.toArray 42 (0,0)) ∧ τ.1.heap[c7]? = some (.cells #[.int .i64 (who : Int),.int .i64 ((tr1.length : Int) + 1),.int .i64 1] 35 (0,0)) ∧ τ.1.heap[c4]? = some (.cells #[.int .i64 0,.int .i64 0,.int .i64 0] 35 (0,0)))
  (fun τ => [(0,.pointer (some ⟨I.m,0,none⟩)),(1,.int .i64 (n : Int)),(4,.pointer (some ⟨c4,0,none⟩)),(5,.int .i64 (who : Int)),(7,.pointer (some ⟨c7,0,none⟩)),(9,.pointer (some ⟨τ.2.2,0,none⟩)),(10,.int .i64 CD.1.2)]) (fun τ => Hp τ.1 [⟨τ.2.2,CD.1.1,42⟩,⟨c7,[.int .i64 (who : Int),.int .i64 ((tr1.length : Int) + 1),.int .i64 1],35⟩,⟨c4,[.int .i64 0,.int .i64 0,.int .i64 0],35⟩]) ?_ ?_
 ·refine St.tree (fun w' => w'.heap[I.m]? = some (.cells #[.pointer (some ⟨I.h,0,none⟩),.pointer (some ⟨I.d,0,none⟩),.pointer (some ⟨I.wd,0,none⟩),se6] 130 (0,0)) ∧ HH w' I.h cf (.pointer (some ⟨I.cM,0,none⟩)) R1.xs pc2 ∧ w'.heap[I.d]? = some (.cells #[pv,ev,.pointer (some ⟨I.cM,0,none⟩),.pointer (some ⟨I.pp,0,none⟩),.pointer (some ⟨I.bd,0,none⟩)] 139 (0,0))) mixed (fun _ h' => have k := (mv6 (Hp.drew h')).mon;⟨Hp.drew h',k.mm,k.hart,k.dd⟩) ?_
  have hmz : ∀ wz : World,w.heap.size ≤ wz.heap.size → ∀ b,KF wz I ((⟨P.L,P.t,s.D.mem R1.f⟩ : PS).mv pv ev lv1 se6 (tr1 ++ [R1]) R1.xs pc2 cf) b → KF w I (P.mv pv ev lv (.slice a0 tr.length cS) tr xs pc cf0) b := fun wz hz b hb => by
   rcases hb with hb | hb
   ·rcases hb with h | h | h | h | h | h | h | h | h | h | h | h | h
    ·exact .inl (.inl h)
    ·exact .inl (.inr (.inl h))
    ·exact .inl (.inr (.inr (.inl h)))
    ·exact .inl (.inr (.inr (.inr (.inl h))))
    ·exact .inl (.inr (.inr (.inr (.inr (.inl h)))))
    ·exact .inl (.inr (.inr (.inr (.inr (.inr (.inl h))))))
    ·exact .inl (.inr (.inr (.inr (.inr (.inr (.inr (.inl h)))))))
    ·exact .inl (.inr (.inr (.inr (.inr (.inr (.inr (.inr (.inl h))))))))
    ·exact .inl (.inr (.inr (.inr (.inr (.inr (.inr (.inr (.inr (.inl h)))))))))
    ·exact .inl (.inr (.inr (.inr (.inr (.inr (.inr (.inr (.inr (.inr (.inl h))))))))))
    ·exact .inl (.inr (.inr (.inr (.inr (.inr (.inr (.inr (.inr (.inr (.inr (.inl h)))))))))))
    ·exact (ho1 b h).elim (fun h => .inl (.inr (.inr (.inr (.inr (.inr (.inr (.inr (.inr (.inr (.inr (.inr (.inl h))))))))))))) .inr
    ·exact (ho6 b h).elim (fun h => .inl (.inr (.inr (.inr (.inr (.inr (.inr (.inr (.inr (.inr (.inr (.inr (.inr h))))))))))))) .inr
   ·exact .inr (Nat.le_trans hz hb)
  refine Mt.pm 0 ?_
  refine Mt.pm 4 ?_
  refine Mt.pm 5 ?_
  refine Mt.pn 1 ?_
  refine Mt.pn 6 ?_
  refine Mt.pz 2 ?_
  refine Mt.pf 7 ?_
  refine Mt.pu 3 ?_
  apply Wl.loadF;exact rfl;exact rfl;(intro w' h';first | exact cell_of h'.1 rfl | exact cell_of h'.2.2 rfl);apply Wl.nilB
  refine Mt.pu 8 ?_
  apply Wl.loadF;exact rfl;exact rfl;(intro w' h';first | exact cell_of h'.1 rfl | exact cell_of h'.2.2 rfl);apply Wl.nilB
  refine Mt.pn 9 ?_
  refine Mt.pf 10 ?_
  refine Mt.pu 11 ?_
  apply Wl.loadAF (xs := R1.xs);exact rfl;exact rfl;exact hRg1.1;(intro w' h' j v hj;rw [addLit];exact cell_of h'.2.1.2 qj);apply Wl.nilB
  refine Mt.eff2 (i := 12) (j := 16) kg zd zd ?_ ?_
  ·apply Wl.callC
   ·exact rfl
   ·exact ke
   intro wq hq
   have zq := hq.upd.size
   have Mq : MonS wq base I ((⟨P.L,P.t,s.D.mem R1.f⟩ : PS).mv pv ev lv1 se6 (tr1 ++ [R1]) R1.xs pc2 cf) := hM6.upd (S := (fun b => b = c8 ∨ b = c7 ∨ b = c4)) (Hp.on3 hq (Upd.refl _ _) (.inl rfl) (.inr (.inl rfl)) (.inr (.inr rfl))) fun b hb hs => hs.elim (o8 b hb) fun hs => hs.elim (o7 b hb) (o4 b hb)
   have Uq : Upd (KF w I (P.mv pv ev lv (.slice a0 tr.length cS) tr xs pc cf0)) w wq := (Hp.on3 hq U6 (.inr kz) (.inr kz) (.inr hc4))
   have w8 := hoffs Mq (hq.own.at (.tail _ (.head _)))
   have w4' := hoffs Mq (hq.own.at (.tail _ (.tail _ (.head _))))
   have w8' := Mq.offT (hq.own.at (.head _)) hse6
   have hlq : ∀ x : Blk,x ∈ _ → x.b < wq.heap.size := fun x hx => hq.own.lt hx
   simp only [List.mem_cons,List.not_mem_nil,or_false,forall_eq_or_imp,forall_eq] at hlq
   refine (hDo wq zq Mq (hE.upd (Uq.mono fun b _ h => hKFb b h))).mono ?_
   rintro e w9 ⟨lv9,rfl,hM9,u9,n9⟩
   have hq9 := Hp.restD hq u9 (by simp only [List.mem_cons,List.not_mem_nil,or_false,forall_eq_or_imp,forall_eq];exact ⟨fun h => h.elim (fun h => w8' _ h rfl) (fun h => by omega),fun h => h.elim (fun h => w8 _ h rfl) (fun h => by omega),fun h => h.elim (fun h => w4' _ h rfl) (fun h => by omega)⟩)
   have hm6z : ∀ b,KF wq I ((⟨P.L,P.t,s.D.mem R1.f⟩ : PS).mv pv ev lv1 se6 (tr1 ++ [R1]) R1.xs pc2 cf) b → KF w I (P.mv pv ev lv (.slice a0 tr.length cS) tr xs pc cf0) b := hmz _ ky
   have U9 : Upd (KF w I (P.mv pv ev lv (.slice a0 tr.length cS) tr xs pc cf0)) w w9 := Uq.comp u9 fun k _ hs => hs.elim id (hm6z k)
   have z9 := u9.size
   have R9 : RunS w9 base I ((⟨P.L,P.t,CD.2⟩ : PS).mv pv ev lv9 se6 (tr1 ++ [R1]) R1.xs pc2 cf) F2 := ⟨hM9,(R6.fx.upd (S := (fun b => b = c8 ∨ b = c7 ∨ b = c4)) (Hp.on3 hq (Upd.refl _ _) (.inl rfl) (.inr (.inl rfl)) (.inr (.inr rfl))) (fun hs => by have hcl : cf < w2.heap.size := hcl2;change cf = c8 ∨ cf = c7 ∨ cf = c4 at hs;omega)).upd u9 (fun h => h.elim (fun h => R6.ne _ h rfl) (fun h => by have hcl : cf < w2.heap.size := hcl2;change wq.heap.size ≤ cf at h;omega)),R6.ge,R6.tv,(R6.tab.upd (S := (fun b => b = c8 ∨ b = c7 ∨ b = c4)) (Hp.on3 hq (Upd.refl _ _) (.inl rfl) (.inr (.inl rfl)) (.inr (.inr rfl))) (fun hs => by change 0 = c8 ∨ 0 = c7 ∨ 0 = c4 at hs;omega)).upd u9 (fun h => h.elim (fun h => by have := (hM6.lt _ h).1;omega) (fun h => by omega))⟩
   have v8 := hM9.offT (hq9.own.at (.head _)) hse6
   have v7 := hoffs hM9 (hq9.own.at (.tail _ (.head _)))
   have v4 := hoffs hM9 (hq9.own.at (.tail _ (.tail _ (.head _))))
   refine ⟨_,_,rfl,hq9,?_⟩
   apply Wl.nil
   refine Mt.backE (fun w' h' => have k := hM9.upd (S := (fun b => b = c8 ∨ b = c7 ∨ b = c4)) (Hp.on3 h' (Upd.refl _ _) (.inl rfl) (.inr (.inl rfl)) (.inr (.inr rfl))) fun b hb hs => hs.elim (v8 b hb) fun hs => hs.elim (v7 b hb) (v4 b hb);(⟨k.mm,k.hart,k.dd⟩ : w'.heap[I.m]? = some (.cells #[.pointer (some ⟨I.h,0,none⟩),.pointer (some ⟨I.d,0,none⟩),.pointer (some ⟨I.wd,0,none⟩),se6] 130 (0,0)) ∧ HH w' I.h cf (.pointer (some ⟨I.cM,0,none⟩)) R1.xs pc2 ∧ w'.heap[I.d]? = some (.cells #[pv,ev,.pointer (some ⟨I.cM,0,none⟩),.pointer (some ⟨I.pp,0,none⟩),.pointer (some ⟨I.bd,0,none⟩)] 139 (0,0)))) ?_
   refine Mt.pm 13 ?_
   refine Mt.pu 14 ?_
   refine Wl.extract rfl rfl rfl (Wl.nilB ?_)
   refine Mt.pu 15 ?_
   refine Wl.extract rfl rfl rfl (Wl.nilB ?_)
   refine Mt.e1 16 ?_
   repeat' first | (apply Wl.alloc;exact rfl;intro c hc ho) | apply Wl.nil
   generalize c = c9 at *
   have hc9 : w9.heap.size ≤ c9 := by assumption
   have z9c : ∀ b,MonF I ((⟨P.L,P.t,CD.2⟩ : PS).mv pv ev lv9 se6 (tr1 ++ [R1]) R1.xs pc2 cf) b → b ≠ c9 := fun b hb e => by have := (hM9.lt b hb).2;omega
   have v9 := z9c
   refine Mt.backE (fun w' h' => have k := hM9.upd (S := (fun b => b = c8 ∨ b = c7 ∨ b = c4 ∨ b = c9)) (Hp.on4 h' (Upd.refl _ _) (.inr (.inr (.inr rfl))) (.inl rfl) (.inr (.inl rfl)) (.inr (.inr (.inl rfl)))) fun b hb hs => hs.elim (v8 b hb) fun hs => hs.elim (v7 b hb) fun hs => hs.elim (v4 b hb) (z9c b hb);(⟨k.mm,k.hart,k.dd⟩ : w'.heap[I.m]? = some (.cells #[.pointer (some ⟨I.h,0,none⟩),.pointer (some ⟨I.d,0,none⟩),.pointer (some ⟨I.wd,0,none⟩),se6] 130 (0,0)) ∧ HH w' I.h cf (.pointer (some ⟨I.cM,0,none⟩)) R1.xs pc2 ∧ w'.heap[I.d]? = some (.cells #[pv,ev,.pointer (some ⟨I.cM,0,none⟩),.pointer (some ⟨I.pp,0,none⟩),.pointer (some ⟨I.bd,0,none⟩)] 139 (0,0)))) ?_
   refine Mt.e1 17 ?_
   apply Wl.storeA (xs := CD.1.1)
   ·exact rfl
   ·exact rfl
   ·exact hRl9
   ·exact hRg9.one
   ·exact ke
   ·exact .z (LOver.whole (by rw [hRl9];rfl))
   apply Wl.nil
   refine Mt.backE (fun w' h' => have k := hM9.upd (S := (fun b => b = c8 ∨ b = c7 ∨ b = c4 ∨ b = c9)) (Hp.on4 h' (Upd.refl _ _) (.inr (.inr (.inr rfl))) (.inl rfl) (.inr (.inl rfl)) (.inr (.inr (.inl rfl)))) fun b hb hs => hs.elim (v8 b hb) fun hs => hs.elim (v7 b hb) fun hs => hs.elim (v4 b hb) (v9 b hb);(⟨k.mm,k.hart,k.dd⟩ : w'.heap[I.m]? = some (.cells #[.pointer (some ⟨I.h,0,none⟩),.pointer (some ⟨I.d,0,none⟩),.pointer (some ⟨I.wd,0,none⟩),se6] 130 (0,0)) ∧ HH w' I.h cf (.pointer (some ⟨I.cM,0,none⟩)) R1.xs pc2 ∧ w'.heap[I.d]? = some (.cells #[pv,ev,.pointer (some ⟨I.cM,0,none⟩),.pointer (some ⟨I.pp,0,none⟩),.pointer (some ⟨I.bd,0,none⟩)] 139 (0,0)))) ?_
   refine Mt.pu 18 ?_
   refine Wl.assign rfl rfl (Wl.nilB ?_)
   refine Mt.toGt kg ?_
   refine Gt.reb (H' := [⟨c9,CD.1.1,42⟩,⟨c7,[.int .i64 (who : Int),.int .i64 ((tr1.length : Int) + 1),.int .i64 1],35⟩,⟨c4,[.int .i64 0,.int .i64 0,.int .i64 0],35⟩]) fun w10 h10 => ⟨⟨h10.own.at (.head _),h10.own.at (.tail _ (.tail _ (.head _))),h10.own.at (.tail _ (.tail _ (.tail _ (.head _)))),trivial⟩,⟨⟨kz,kz,trivial⟩,⟨kz,trivial⟩,trivial,trivial⟩,?_⟩
   have u10 : Upd (fun b => b = c8 ∨ b = c7 ∨ b = c4 ∨ b = c9) w9 w10 := (Hp.on4 h10 (Upd.refl _ _) (.inr (.inr (.inr rfl))) (.inl rfl) (.inr (.inl rfl)) (.inr (.inr (.inl rfl))))
   apply Gt.meet (w10,lv9,c9)
   ·exact ⟨R9.upd u10 (fun b hb hs => hs.elim (v8 b hb) fun hs => hs.elim (v7 b hb) fun hs => hs.elim (v4 b hb) (v9 b hb)) (fun hs => by have hcl : cf < w2.heap.size := hcl2;change cf = c8 ∨ cf = c7 ∨ cf = c4 ∨ cf = c9 at hs;omega) (fun hs => by change 0 = c8 ∨ 0 = c7 ∨ 0 = c4 ∨ 0 = c9 at hs;omega),(Hp.on4 h10 U9 (.inr kz) (.inr kz) (.inr kz) (.inr hc4)),fun k hk => (n9 k hk).elim (ho1 k) fun h => .inr ky,⟨by simp only;omega,by simp only;omega,by simp only;omega,by have hcl : cf < w2.heap.size := hcl2;simp only;omega⟩,h10.own.at (.head _),h10.own.at (.tail _ (.tail _ (.head _))),h10.own.at (.tail _ (.tail _ (.tail _ (.head _))))⟩
   ·exact ke
   ·exact fun _ h => h
  ·repeat' first | (apply Wl.alloc;exact rfl;intro c hc ho) | apply Wl.nil
   generalize c = c9 at *
   have hc9 : w6.heap.size ≤ c9 := by assumption
   have z9c : ∀ b,MonF I ((⟨P.L,P.t,s.D.mem R1.f⟩ : PS).mv pv ev lv1 se6 (tr1 ++ [R1]) R1.xs pc2 cf) b → b ≠ c9 := fun b hb e => by have := (hM6.lt b hb).2;omega
   refine Mt.backE (fun w' h' => have k := hM6.upd (S := (fun b => b = c8 ∨ b = c7 ∨ b = c4 ∨ b = c9)) (Hp.on4 h' (Upd.refl _ _) (.inr (.inr (.inr rfl))) (.inl rfl) (.inr (.inl rfl)) (.inr (.inr (.inl rfl)))) fun b hb hs => hs.elim (o8 b hb) fun hs => hs.elim (o7 b hb) fun hs => hs.elim (o4 b hb) (z9c b hb);(⟨k.mm,k.hart,k.dd⟩ : w'.heap[I.m]? = some (.cells #[.pointer (some ⟨I.h,0,none⟩),.pointer (some ⟨I.d,0,none⟩),.pointer (some ⟨I.wd,0,none⟩),se6] 130 (0,0)) ∧ HH w' I.h cf (.pointer (some ⟨I.cM,0,none⟩)) R1.xs pc2 ∧ w'.heap[I.d]? = some (.cells #[pv,ev,.pointer (some ⟨I.cM,0,none⟩),.pointer (some ⟨I.pp,0,none⟩),.pointer (some ⟨I.bd,0,none⟩)] 139 (0,0)))) ?_
   refine Mt.e1 12 ?_
   apply Wl.callC
   ·exact rfl
   ·exact ke
   intro wq hq
   have zq := hq.upd.size
   have q9 : ∀ b,MonF I ((⟨P.L,P.t,s.D.mem R1.f⟩ : PS).mv pv ev lv1 se6 (tr1 ++ [R1]) R1.xs pc2 cf) b → b ≠ c9 := fun b hb e => by have := (hM6.lt b hb).2;omega
   have Mq : MonS wq base I ((⟨P.L,P.t,s.D.mem R1.f⟩ : PS).mv pv ev lv1 se6 (tr1 ++ [R1]) R1.xs pc2 cf) := hM6.upd (S := (fun b => b = c8 ∨ b = c7 ∨ b = c4 ∨ b = c9)) (Hp.on4 hq (Upd.refl _ _) (.inr (.inr (.inr rfl))) (.inl rfl) (.inr (.inl rfl)) (.inr (.inr (.inl rfl)))) fun b hb hs => hs.elim (o8 b hb) fun hs => hs.elim (o7 b hb) fun hs => hs.elim (o4 b hb) (q9 b hb)
   have Uq : Upd (KF w I (P.mv pv ev lv (.slice a0 tr.length cS) tr xs pc cf0)) w wq := (Hp.on4 hq U6 (.inr kz) (.inr kz) (.inr kz) (.inr hc4))
   have w8 := hoffs Mq (hq.own.at (.tail _ (.tail _ (.head _))))
   have w4' := hoffs Mq (hq.own.at (.tail _ (.tail _ (.tail _ (.head _)))))
   have w8' := Mq.offT (hq.own.at (.tail _ (.head _))) hse6
   have w9' := Mq.offF (b := c9) (t := 42) (hq.own.at (.head _)) ze
   have hlq : ∀ x : Blk,x ∈ _ → x.b < wq.heap.size := fun x hx => hq.own.lt hx
   simp only [List.mem_cons,List.not_mem_nil,or_false,forall_eq_or_imp,forall_eq] at hlq
   refine (hDo wq zq Mq (hE.upd (Uq.mono fun b _ h => hKFb b h))).mono ?_
   rintro e w9 ⟨lv9,rfl,hM9,u9,n9⟩
   have hq9 := Hp.restD hq u9 (by simp only [List.mem_cons,List.not_mem_nil,or_false,forall_eq_or_imp,forall_eq];exact ⟨fun h => h.elim (fun h => w9' _ h rfl) (fun h => by omega),fun h => h.elim (fun h => w8' _ h rfl) (fun h => by omega),fun h => h.elim (fun h => w8 _ h rfl) (fun h => by omega),fun h => h.elim (fun h => w4' _ h rfl) (fun h => by omega)⟩)
   have hm6z : ∀ b,KF wq I ((⟨P.L,P.t,s.D.mem R1.f⟩ : PS).mv pv ev lv1 se6 (tr1 ++ [R1]) R1.xs pc2 cf) b → KF w I (P.mv pv ev lv (.slice a0 tr.length cS) tr xs pc cf0) b := hmz _ ky
   have U9 : Upd (KF w I (P.mv pv ev lv (.slice a0 tr.length cS) tr xs pc cf0)) w w9 := Uq.comp u9 fun k _ hs => hs.elim id (hm6z k)
   have z9 := u9.size
   have R9 : RunS w9 base I ((⟨P.L,P.t,CD.2⟩ : PS).mv pv ev lv9 se6 (tr1 ++ [R1]) R1.xs pc2 cf) F2 := ⟨hM9,(R6.fx.upd (S := (fun b => b = c8 ∨ b = c7 ∨ b = c4 ∨ b = c9)) (Hp.on4 hq (Upd.refl _ _) (.inr (.inr (.inr rfl))) (.inl rfl) (.inr (.inl rfl)) (.inr (.inr (.inl rfl)))) (fun hs => by have hcl : cf < w2.heap.size := hcl2;change cf = c8 ∨ cf = c7 ∨ cf = c4 ∨ cf = c9 at hs;omega)).upd u9 (fun h => h.elim (fun h => R6.ne _ h rfl) (fun h => by have hcl : cf < w2.heap.size := hcl2;change wq.heap.size ≤ cf at h;omega)),R6.ge,R6.tv,(R6.tab.upd (S := (fun b => b = c8 ∨ b = c7 ∨ b = c4 ∨ b = c9)) (Hp.on4 hq (Upd.refl _ _) (.inr (.inr (.inr rfl))) (.inl rfl) (.inr (.inl rfl)) (.inr (.inr (.inl rfl)))) (fun hs => by change 0 = c8 ∨ 0 = c7 ∨ 0 = c4 ∨ 0 = c9 at hs;omega)).upd u9 (fun h => h.elim (fun h => by have := (hM6.lt _ h).1;omega) (fun h => by omega))⟩
   have v8 := hM9.offT (hq9.own.at (.tail _ (.head _))) hse6
   have v7 := hoffs hM9 (hq9.own.at (.tail _ (.tail _ (.head _))))
   have v4 := hoffs hM9 (hq9.own.at (.tail _ (.tail _ (.tail _ (.head _)))))
   have v9 := hM9.offF (b := c9) (t := 42) (hq9.own.at (.head _)) ze
   refine ⟨_,_,rfl,hq9,?_⟩
   apply Wl.nil
   refine Mt.backE (fun w' h' => have k := hM9.upd (S := (fun b => b = c8 ∨ b = c7 ∨ b = c4 ∨ b = c9)) (Hp.on4 h' (Upd.refl _ _) (.inr (.inr (.inr rfl))) (.inl rfl) (.inr (.inl rfl)) (.inr (.inr (.inl rfl)))) fun b hb hs => hs.elim (v8 b hb) fun hs => hs.elim (v7 b hb) fun hs => hs.elim (v4 b hb) (v9 b hb);(⟨k.mm,k.hart,k.dd⟩ : w'.heap[I.m]? = some (.cells #[.pointer (some ⟨I.h,0,none⟩),.pointer (some ⟨I.d,0,none⟩),.pointer (some ⟨I.wd,0,none⟩),se6] 130 (0,0)) ∧ HH w' I.h cf (.pointer (some ⟨I.cM,0,none⟩)) R1.xs pc2 ∧ w'.heap[I.d]? = some (.cells #[pv,ev,.pointer (some ⟨I.cM,0,none⟩),.pointer (some ⟨I.pp,0,none⟩),.pointer (some ⟨I.bd,0,none⟩)] 139 (0,0)))) ?_
   refine Mt.pm 13 ?_
   refine Mt.pu 14 ?_
   refine Wl.extract rfl rfl rfl (Wl.nilB ?_)
   refine Mt.pu 15 ?_
   refine Wl.extract rfl rfl rfl (Wl.nilB ?_)
   refine Mt.e1 17 ?_
   apply Wl.storeA (xs := CD.1.1)
   ·exact rfl
   ·exact rfl
   ·exact hRl9
   ·exact hRg9.one
   ·exact ke
   ·exact .z (LOver.whole (by rw [hRl9];rfl))
   apply Wl.nil
   refine Mt.backE (fun w' h' => have k := hM9.upd (S := (fun b => b = c8 ∨ b = c7 ∨ b = c4 ∨ b = c9)) (Hp.on4 h' (Upd.refl _ _) (.inr (.inr (.inr rfl))) (.inl rfl) (.inr (.inl rfl)) (.inr (.inr (.inl rfl)))) fun b hb hs => hs.elim (v8 b hb) fun hs => hs.elim (v7 b hb) fun hs => hs.elim (v4 b hb) (v9 b hb);(⟨k.mm,k.hart,k.dd⟩ : w'.heap[I.m]? = some (.cells #[.pointer (some ⟨I.h,0,none⟩),.pointer (some ⟨I.d,0,none⟩),.pointer (some ⟨I.wd,0,none⟩),se6] 130 (0,0)) ∧ HH w' I.h cf (.pointer (some ⟨I.cM,0,none⟩)) R1.xs pc2 ∧ w'.heap[I.d]? = some (.cells #[pv,ev,.pointer (some ⟨I.cM,0,none⟩),.pointer (some ⟨I.pp,0,none⟩),.pointer (some ⟨I.bd,0,none⟩)] 139 (0,0)))) ?_
   refine Mt.pu 18 ?_
   refine Wl.assign rfl rfl (Wl.nilB ?_)
   refine Mt.toGt kg ?_
   refine Gt.reb (H' := [⟨c9,CD.1.1,42⟩,⟨c7,[.int .i64 (who : Int),.int .i64 ((tr1.length : Int) + 1),.int .i64 1],35⟩,⟨c4,[.int .i64 0,.int .i64 0,.int .i64 0],35⟩]) fun w10 h10 => ⟨⟨h10.own.at (.head _),h10.own.at (.tail _ (.tail _ (.head _))),h10.own.at (.tail _ (.tail _ (.tail _ (.head _)))),trivial⟩,⟨⟨kz,kz,trivial⟩,⟨kz,trivial⟩,trivial,trivial⟩,?_⟩
   have u10 : Upd (fun b => b = c8 ∨ b = c7 ∨ b = c4 ∨ b = c9) w9 w10 := (Hp.on4 h10 (Upd.refl _ _) (.inr (.inr (.inr rfl))) (.inl rfl) (.inr (.inl rfl)) (.inr (.inr (.inl rfl))))
   apply Gt.meet (w10,lv9,c9)
   ·exact ⟨R9.upd u10 (fun b hb hs => hs.elim (v8 b hb) fun hs => hs.elim (v7 b hb) fun hs => hs.elim (v4 b hb) (v9 b hb)) (fun hs => by have hcl : cf < w2.heap.size := hcl2;change cf = c8 ∨ cf = c7 ∨ cf = c4 ∨ cf = c9 at hs;omega) (fun hs => by change 0 = c8 ∨ 0 = c7 ∨ 0 = c4 ∨ 0 = c9 at hs;omega),(Hp.on4 h10 U9 (.inr kz) (.inr kz) (.inr kz) (.inr hc4)),fun k hk => (n9 k hk).elim (ho1 k) fun h => .inr ky,⟨by simp only;omega,by simp only;omega,by simp only;omega,by have hcl : cf < w2.heap.size := hcl2;simp only;omega⟩,h10.own.at (.head _),h10.own.at (.tail _ (.tail _ (.head _))),h10.own.at (.tail _ (.tail _ (.tail _ (.head _))))⟩
   ·exact ke
   ·exact fun _ h => h
 rintro ⟨w10,lv10,c9⟩ ⟨R10,U10,hl10,⟨hc9,n97,n94,n9f⟩,lt910,lt710,lt410⟩
 simp only at R10 U10 hl10 hc9 n97 n94 n9f lt910 lt710 lt410 ⊢
 clear R6 hM6 U6 mv6 mu6 o7 o4 o8 hDo b8 b7 b4
 have hM10 := R10.mon
 have o7 := hoffs hM10 (b := c7) (lt710)
 have o4 := hoffs hM10 (b := c4) (lt410)
 have o9 := hM10.offF (b := c9) (t := 42) (lt910) ze
 have z10 := U10.size
 have mv10 : ∀ {w' : World},Hp w10 [⟨c9,CD.1.1,42⟩,⟨c7,[.int .i64 (who : Int),.int .i64 ((tr1.length : Int) + 1),.int .i64 1],35⟩,⟨c4,[.int .i64 0,.int .i64 0,.int .i64 0],35⟩] w' → RunS w' base I ((⟨P.L,P.t,CD.2⟩ : PS).mv pv ev lv10 se6 (tr1 ++ [R1]) R1.xs pc2 cf) F2 := fun h' => R10.upd (S := fun b => b = c9 ∨ b = c7 ∨ b = c4) (Hp.on3 h' (Upd.refl _ _) (.inl rfl) (.inr (.inl rfl)) (.inr (.inr rfl))) (fun b hb hs => hs.elim (o9 b hb) fun hs => hs.elim (o7 b hb) (o4 b hb)) (fun hs => by change cf = c9 ∨ cf = c7 ∨ cf = c4 at hs;omega) (fun hs => by change 0 = c9 ∨ 0 = c7 ∨ 0 = c4 at hs;omega)
 have mu10 : ∀ {w' : World},Hp w10 [⟨c9,CD.1.1,42⟩,⟨c7,[.int .i64 (who : Int),.int .i64 ((tr1.length : Int) + 1),.int .i64 1],35⟩,⟨c4,[.int .i64 0,.int .i64 0,.int .i64 0],35⟩] w' → Upd (KF w I (P.mv pv ev lv (.slice a0 tr.length cS) tr xs pc cf0)) w w' := fun h' => Hp.on3 h' U10 (.inr kz) (.inr kz) (.inr hc4)
 have nh9 : I.h ≠ c9 := o9 _ (.inr (.inl rfl))
 have nm9 : I.m ≠ c9 := o9 _ (.inl rfl)
 repeat' first | apply St.seq
 refine St.tree (fun w' => w'.heap[I.m]? = some (.cells #[.pointer (some ⟨I.h,0,none⟩),.pointer (some ⟨I.d,0,none⟩),.pointer (some ⟨I.wd,0,none⟩),se6] 130 (0,0)) ∧ w'.heap[c9]? = some (.cells CD.1.1.toArray 42 (0,0))) mixed (fun _ h' => ⟨Hp.drew h',(mv10 (Hp.drew h')).mon.mm,(Hp.drew h').own.at (.head _)⟩) ?_
 refine Mt.pm 0 ?_
 refine Mt.pu 4 ?_
 apply Wl.loadAF (xs := CD.1.1);exact rfl;exact rfl;exact hRl9;(intro w' h' j v hj;rw [addLit];exact cell_of h'.2 (by rw [Nat.zero_add];exact hj));apply Wl.nilB
 refine Mt.pn 1 ?_
 refine Mt.pf 2 ?_
 refine Mt.pu 3 ?_
 apply Wl.loadF;exact rfl;exact rfl;(intro w' h';exact cell_of h'.1 rfl);apply Wl.nilB
 refine Mt.pn 5 ?_
 refine Mt.pf 6 ?_
 refine Mt.e1 7 ?_
 refine Wl.cls (fun _ h' => Hp.open h' hM10.hart.2 qh) ?_
 apply Wl.storeA (xs := CD.1.1)
 ·exact rfl
 ·exact rfl
 ·exact hRl9
 ·exact hRg9.one
 ·exact ke
 ·exact .z (LOver.pre (hM10.hart.1.trans hRl9.symm))
 apply Wl.nil
 refine Mt.backE (fun w' h' => ⟨(Hp.on4 (S := fun b => b = I.h ∨ b = c9 ∨ b = c7 ∨ b = c4) h' (Upd.refl _ _) (.inl rfl) (.inr (.inl rfl)) (.inr (.inr (.inl rfl))) (.inr (.inr (.inr rfl)))).heap hM10.mm (fun hs => by omega),h'.own.at (.tail _ (.head _))⟩) ?_
 refine Mt.toGt kg ?_
 repeat' first | apply St.seq | apply Gt.next
 refine St.reb (H' := [⟨c9,CD.1.1,42⟩,⟨c7,[.int .i64 (who : Int),.int .i64 ((tr1.length : Int) + 1),.int .i64 1],35⟩,⟨c4,[.int .i64 0,.int .i64 0,.int .i64 0],35⟩]) fun w11 h11 => ⟨⟨h11.own.at (.tail _ (.head _)),h11.own.at (.tail _ (.tail _ (.head _))),h11.own.at (.tail _ (.tail _ (.tail _ (.head _)))),trivial⟩,⟨⟨by first | exact n97.symm | exact n94.symm,by first | exact n97.symm | exact n94.symm,trivial⟩,⟨kz,trivial⟩,trivial,trivial⟩,?_⟩
 have u11 : Upd (fun b => b = I.h ∨ b = c9 ∨ b = c7 ∨ b = c4) w10 w11 := Hp.on4 h11 (Upd.refl _ _) (.inl rfl) (.inr (.inl rfl)) (.inr (.inr (.inl rfl))) (.inr (.inr (.inr rfl)))
 have hS11 : ∀ b,MonF I ((⟨P.L,P.t,CD.2⟩ : PS).mv pv ev lv10 se6 (tr1 ++ [R1]) R1.xs pc2 cf) b → (b = I.h ∨ b = c9 ∨ b = c7 ∨ b = c4) → b = I.h ∨ b = I.cM := fun b hb hs => hs.elim .inl fun hs => hs.elim (fun e => absurd e (o9 b hb)) fun hs => hs.elim (fun e => absurd e (o7 b hb)) fun e => absurd e (o4 b hb)
 have R11 : RunS w11 base I ((⟨P.L,P.t,CD.2⟩ : PS).mv pv ev lv10 se6 (tr1 ++ [R1]) CD.1.1 pc2 cf) F2 := ⟨hM10.stp (cf' := cf) ⟨hRl9,h11.own.at (.head _)⟩ (u11.heap hM10.mem fun hs => by have := o9 I.cM (.inr (.inr (.inr (.inr (.inr (.inr (.inr (.inr (.inr (.inl rfl))))))))));omega) hRg9 hM10.rg.2 u11 hS11,R10.fx.upd u11 (fun hs => by change cf = I.h ∨ cf = c9 ∨ cf = c7 ∨ cf = c4 at hs;omega),R10.ge,R10.tv,R10.tab.upd u11 (fun hs => by have := hM10.ge.2.1;change 0 = I.h ∨ 0 = c9 ∨ 0 = c7 ∨ 0 = c4 at hs;omega)⟩
 have U11 : Upd (KF w I (P.mv pv ev lv (.slice a0 tr.length cS) tr xs pc cf0)) w w11 := U10.comp u11 fun k _ hs => hs.elim id fun hs => hs.elim (fun e => .inl (.inr (.inl e))) fun hs => .inr ky
 have lt911 := h11.own.at (.tail _ (.head _))
 have lt711 := h11.own.at (.tail _ (.tail _ (.head _)))
 have lt411 := h11.own.at (.tail _ (.tail _ (.tail _ (.head _))))
 have hM11 := R11.mon
 have o7 := hoffs hM11 (b := c7) (lt711)
 have o4 := hoffs hM11 (b := c4) (lt411)
 have o9 := hM11.offF (b := c9) (t := 42) (lt911) ze
 have z11 := U11.size
 have mv11 : ∀ {w' : World},Hp w11 [⟨c9,CD.1.1,42⟩,⟨c7,[.int .i64 (who : Int),.int .i64 ((tr1.length : Int) + 1),.int .i64 1],35⟩,⟨c4,[.int .i64 0,.int .i64 0,.int .i64 0],35⟩] w' → RunS w' base I ((⟨P.L,P.t,CD.2⟩ : PS).mv pv ev lv10 se6 (tr1 ++ [R1]) CD.1.1 pc2 cf) F2 := fun h' => R11.upd (S := fun b => b = c9 ∨ b = c7 ∨ b = c4) (Hp.on3 h' (Upd.refl _ _) (.inl rfl) (.inr (.inl rfl)) (.inr (.inr rfl))) (fun b hb hs => hs.elim (o9 b hb) fun hs => hs.elim (o7 b hb) (o4 b hb)) (fun hs => by change cf = c9 ∨ cf = c7 ∨ cf = c4 at hs;omega) (fun hs => by change 0 = c9 ∨ 0 = c7 ∨ 0 = c4 at hs;omega)
 have mu11 : ∀ {w' : World},Hp w11 [⟨c9,CD.1.1,42⟩,⟨c7,[.int .i64 (who : Int),.int .i64 ((tr1.length : Int) + 1),.int .i64 1],35⟩,⟨c4,[.int .i64 0,.int .i64 0,.int .i64 0],35⟩] w' → Upd (KF w I (P.mv pv ev lv (.slice a0 tr.length cS) tr xs pc cf0)) w w' := fun h' => Hp.on3 h' U11 (.inr kz) (.inr kz) (.inr hc4)
 refine St.tree (fun w' => w'.heap[I.m]? = some (.cells #[.pointer (some ⟨I.h,0,none⟩),.pointer (some ⟨I.d,0,none⟩),.pointer (some ⟨I.wd,0,none⟩),se6] 130 (0,0))) mixed (fun _ h' => ⟨Hp.drew h',(mv11 (Hp.drew h')).mon.mm⟩) ?_
 refine Mt.pm 0 ?_
 refine Mt.pm 4 ?_
 refine Mt.pn 1 ?_
 refine Mt.pf 2 ?_
 refine Mt.pu 3 ?_
 apply Wl.loadF;exact rfl;exact rfl;(intro w' h';exact cell_of h' rfl);apply Wl.nilB
 refine Mt.e1 5 ?_
 apply Wl.callQ
 ·exact rfl
 ·exact ke
 ·intro wq hq
  exact hq.q (mEpc base I _ F2 wq (mv11 hq))
 apply Wl.nil
 refine Mt.backE (fun w' h' => by first | exact (mv11 h').mon.mm | exact (Hp.on4 (S := fun b => b = I.h ∨ b = c9 ∨ b = c7 ∨ b = c4) h' (Upd.refl _ _) (.inl rfl) (.inr (.inl rfl)) (.inr (.inr (.inl rfl))) (.inr (.inr (.inr rfl)))).heap hM11.mm (fun hs => by omega)) ?_
 refine Mt.pu 6 ?_
 refine Wl.add rfl rfl rfl (Wl.nilB ?_)
 refine Mt.pn 7 ?_
 refine Mt.pz 8 ?_
 refine Mt.e1 9 ?_
 refine Wl.cls (fun _ h' => Hp.open h' hM11.hart.2 qh) ?_
 apply Wl.storeHi 0
 ·exact rfl
 ·exact rfl
 ·exact rfl
 ·exact ke
 ·exact hRl9
 ·exact rfl
 ·exact kx
 apply Wl.nil
 refine Mt.backE (fun w' h' => by first | exact (mv11 h').mon.mm | exact (Hp.on4 (S := fun b => b = I.h ∨ b = c9 ∨ b = c7 ∨ b = c4) h' (Upd.refl _ _) (.inl rfl) (.inr (.inl rfl)) (.inr (.inr (.inl rfl))) (.inr (.inr (.inr rfl)))).heap hM11.mm (fun hs => by omega)) ?_
 refine Mt.toGt kg ?_
 repeat' first | apply Gt.next
 refine St.reb (H' := [⟨c9,CD.1.1,42⟩,⟨c7,[.int .i64 (who : Int),.int .i64 ((tr1.length : Int) + 1),.int .i64 1],35⟩,⟨c4,[.int .i64 0,.int .i64 0,.int .i64 0],35⟩]) fun w12 h12 => ⟨⟨h12.own.at (.tail _ (.head _)),h12.own.at (.tail _ (.tail _ (.head _))),h12.own.at (.tail _ (.tail _ (.tail _ (.head _)))),trivial⟩,⟨⟨by first | exact n97.symm | exact n94.symm,by first | exact n97.symm | exact n94.symm,trivial⟩,⟨kz,trivial⟩,trivial,trivial⟩,?_⟩
 have u12 : Upd (fun b => b = I.h ∨ b = c9 ∨ b = c7 ∨ b = c4) w11 w12 := Hp.on4 h12 (Upd.refl _ _) (.inl rfl) (.inr (.inl rfl)) (.inr (.inr (.inl rfl))) (.inr (.inr (.inr rfl)))
 have hS12 : ∀ b,MonF I ((⟨P.L,P.t,CD.2⟩ : PS).mv pv ev lv10 se6 (tr1 ++ [R1]) CD.1.1 pc2 cf) b → (b = I.h ∨ b = c9 ∨ b = c7 ∨ b = c4) → b = I.h ∨ b = I.cM := fun b hb hs => hs.elim .inl fun hs => hs.elim (fun e => absurd e (o9 b hb)) fun hs => hs.elim (fun e => absurd e (o7 b hb)) fun e => absurd e (o4 b hb)
 have hpcB : IntKind.u32.wrap (F2.ep + 4) = pcB s.pc := by unfold pcB;rw [hep2]
 have hh12 := h12.own.at (.head _)
 rw [hpcB] at hh12
 have R12 : RunS w12 base I ((⟨P.L,P.t,CD.2⟩ : PS).mv pv ev lv10 se6 (tr1 ++ [R1]) CD.1.1 (pcB s.pc) cf) F2 := ⟨hM11.stp (cf' := cf) ⟨hRl9,hh12⟩ (u12.heap hM11.mem fun hs => by have := o9 I.cM (.inr (.inr (.inr (.inr (.inr (.inr (.inr (.inr (.inr (.inl rfl))))))))));omega) hRg9 (by unfold pcB;exact wr32 _) u12 hS12,R11.fx.upd u12 (fun hs => by change cf = I.h ∨ cf = c9 ∨ cf = c7 ∨ cf = c4 at hs;omega),R11.ge,R11.tv,R11.tab.upd u12 (fun hs => by have := hM10.ge.2.1;change 0 = I.h ∨ 0 = c9 ∨ 0 = c7 ∨ 0 = c4 at hs;omega)⟩
 have U12 : Upd (KF w I (P.mv pv ev lv (.slice a0 tr.length cS) tr xs pc cf0)) w w12 := U11.comp u12 fun k _ hs => hs.elim id fun hs => hs.elim (fun e => .inl (.inr (.inl e))) fun hs => .inr ky
 have lt912 := h12.own.at (.tail _ (.head _))
 have lt712 := h12.own.at (.tail _ (.tail _ (.head _)))
 have lt412 := h12.own.at (.tail _ (.tail _ (.tail _ (.head _))))
 have hM12 := R12.mon
 have o7 := hoffs hM12 (b := c7) (lt712)
 have o4 := hoffs hM12 (b := c4) (lt412)
 have o9 := hM12.offF (b := c9) (t := 42) (lt912) ze
 have z12 := U12.size
 have mv12 : ∀ {w' : World},Hp w12 [⟨c9,CD.1.1,42⟩,⟨c7,[.int .i64 (who : Int),.int .i64 ((tr1.length : Int) + 1),.int .i64 1],35⟩,⟨c4,[.int .i64 0,.int .i64 0,.int .i64 0],35⟩] w' → RunS w' base I ((⟨P.L,P.t,CD.2⟩ : PS).mv pv ev lv10 se6 (tr1 ++ [R1]) CD.1.1 (pcB s.pc) cf) F2 := fun h' => R12.upd (S := fun b => b = c9 ∨ b = c7 ∨ b = c4) (Hp.on3 h' (Upd.refl _ _) (.inl rfl) (.inr (.inl rfl)) (.inr (.inr rfl))) (fun b hb hs => hs.elim (o9 b hb) fun hs => hs.elim (o7 b hb) (o4 b hb)) (fun hs => by change cf = c9 ∨ cf = c7 ∨ cf = c4 at hs;omega) (fun hs => by change 0 = c9 ∨ 0 = c7 ∨ 0 = c4 at hs;omega)
 have mu12 : ∀ {w' : World},Hp w12 [⟨c9,CD.1.1,42⟩,⟨c7,[.int .i64 (who : Int),.int .i64 ((tr1.length : Int) + 1),.int .i64 1],35⟩,⟨c4,[.int .i64 0,.int .i64 0,.int .i64 0],35⟩] w' → Upd (KF w I (P.mv pv ev lv (.slice a0 tr.length cS) tr xs pc cf0)) w w' := fun h' => Hp.on3 h' U12 (.inr kz) (.inr kz) (.inr hc4)
 have hlen : ((tr1 ++ [R1]).length : Int) = (tr1.length : Int) + 1 := by rw [List.length_append];rfl
 have hlen' : (tr1 ++ [R1]).length = tr1.length + 1 := by rw [List.length_append];rfl
 clear R10 R11 hM10 hM11 U10 U11 mv10 mv11 mu10 mu11 u11 u12 hS11 hS12
 by_cases hx1 : CD.1.2 = 1
 ·have he1 : decide (CD.1.2 = 1) = true := decide_eq_true hx1
  have hcall : callO CD s.pc = ⟨3,regI CD.1.1 10,pcB s.pc,⟨CD.1.1,pcB s.pc,CD.2⟩⟩ := by unfold callO;rw [if_pos hx1]
  rw [hcall] at hone
  have hr2 := runF_end (E := E) (n := P.L.length) (who := who) (cf := cfOf E who) hlt (by rw [hone];exact (by decide : (3 : Int) ≠ 0))
  rw [hone,hR1,hrun] at hr2
  simp only at hr2
  obtain ⟨i10x,r10x⟩ : CD.1.1[10]? = some (.int .u32 (regI CD.1.1 10)) ∧ 0 ≤ regI CD.1.1 10 ∧ regI CD.1.1 10 < 4294967296 := hRg9.regI (r := 10) ze
  repeat' first | refine Wl.move rfl rfl ?_ | refine Wl.assign rfl rfl ?_ | (apply Wl.eqlIs;exact rfl;exact rfl;exact rfl;exact kv) | apply Wl.nil | apply St.seq | apply St.block | apply St.region | (apply St.condT;exact rfl;exact ka) | apply Gt.next
  refine St.tree (fun w' => w'.heap[I.m]? = some (.cells #[.pointer (some ⟨I.h,0,none⟩),.pointer (some ⟨I.d,0,none⟩),.pointer (some ⟨I.wd,0,none⟩),se6] 130 (0,0)) ∧ HH w' I.h cf (.pointer (some ⟨I.cM,0,none⟩)) CD.1.1 (pcB s.pc)) mixed (fun _ h' => ⟨Hp.drew h',(mv12 (Hp.drew h')).mon.mm,(mv12 (Hp.drew h')).mon.hart⟩) ?_
  refine Mt.pm 0 ?_
  refine Mt.pm 4 ?_
  refine Mt.pm 11 ?_
  refine Mt.pn 1 ?_
  refine Mt.pn 5 ?_
  refine Mt.pn 12 ?_
  refine Mt.pz 2 ?_
  refine Mt.pf 6 ?_
  refine Mt.pf 13 ?_
  refine Mt.pu 3 ?_
  apply Wl.loadF;exact rfl;exact rfl;(intro w' h';first | exact cell_of h'.1 rfl | exact h'.2.at1.1);apply Wl.nilB
  refine Mt.pu 7 ?_
  apply Wl.loadF;exact rfl;exact rfl;(intro w' h';first | exact cell_of h'.1 rfl | exact h'.2.at1.1);apply Wl.nilB
  refine Mt.pu 14 ?_
  apply Wl.loadF;exact rfl;exact rfl;(intro w' h';first | exact cell_of h'.1 rfl | exact h'.2.at1.1);apply Wl.nilB
  refine Mt.pn 8 ?_
  refine Mt.pn 15 ?_
  refine Mt.pf 9 ?_
  refine Mt.pz 16 ?_
  refine Mt.pu 10 ?_
  apply Wl.loadAF (xs := CD.1.1);exact rfl;exact rfl;exact hRl9;(intro w' h' j v hj;rw [addLit];exact cell_of h'.2.2 qj);apply Wl.nilB
  refine Mt.pu 17 ?_
  apply Wl.loadF;exact rfl;exact rfl;(intro w' h';first | exact cell_of h'.1 rfl | exact h'.2.at1.1);apply Wl.nilB
  refine Mt.e1 18 ?_
  apply Wl.callC
  ·exact rfl
  ·exact ke
  intro wq hq
  have tq := mv12 hq
  refine (wKeep I.wd I.sa P.L who x CD.1.1 (pcB s.pc) wq (hw ▸ tq.mon.ward) hx hRg9 (by unfold pcB;exact wr32 _)).mono ?_
  rintro e w13 ⟨rfl,hW13,u13⟩
  have M13 := tq.mon.wrd hW13 (List.length_set ..) (u13.mono fun k _ h => .inl h)
  have hq13 := Hp.restD hq u13 zy
  have U13 : Upd (KF w I (P.mv pv ev lv (.slice a0 tr.length cS) tr xs pc cf0)) w w13 := (mu12 hq).comp u13 fun k _ hs => hs.elim id fun h => .inl (.inr (.inr (.inr (.inr (.inl h)))))
  have k7 := hoffs M13 (hq13.own.at (.tail _ (.head _)))
  have k4 := hoffs M13 (hq13.own.at (.tail _ (.tail _ (.head _))))
  have k9 := M13.offF (b := c9) (t := 42) (hq13.own.at (.head _)) ze
  have km := fun {w' : World} (h' : Hp w13 [⟨c9,CD.1.1,42⟩,⟨c7,[.int .i64 (who : Int),.int .i64 ((tr1.length : Int) + 1),.int .i64 1],35⟩,⟨c4,[.int .i64 0,.int .i64 0,.int .i64 0],35⟩] w') => M13.upd (S := fun b => b = c9 ∨ b = c7 ∨ b = c4) (Hp.on3 h' (Upd.refl _ _) (.inl rfl) (.inr (.inl rfl)) (.inr (.inr rfl))) fun b hb hs => hs.elim (k9 b hb) fun hs => hs.elim (k7 b hb) (k4 b hb)
  have ku : ∀ {w' : World},Hp w13 [⟨c9,CD.1.1,42⟩,⟨c7,[.int .i64 (who : Int),.int .i64 ((tr1.length : Int) + 1),.int .i64 1],35⟩,⟨c4,[.int .i64 0,.int .i64 0,.int .i64 0],35⟩] w' → Upd (KF w I (P.mv pv ev lv (.slice a0 tr.length cS) tr xs pc cf0)) w w' := fun h' => Hp.on3 h' U13 (.inr kz) (.inr kz) (.inr hc4)
  refine ⟨_,_,rfl,hq13,?_⟩
  apply Wl.nil
  refine Mt.backE (fun _ h' => ⟨(km h').mm,(km h').hart⟩) ?_
  refine Mt.toGt kg ?_
  repeat' first | apply St.seq | apply Gt.next
  refine St.tree (fun w' => w'.heap[I.m]? = some (.cells #[.pointer (some ⟨I.h,0,none⟩),.pointer (some ⟨I.d,0,none⟩),.pointer (some ⟨I.wd,0,none⟩),se6] 130 (0,0)) ∧ w'.heap[c9]? = some (.cells CD.1.1.toArray 42 (0,0))) mixed (fun _ h' => ⟨Hp.drew h',(km (Hp.drew h')).mm,(Hp.drew h').own.at (.head _)⟩) ?_
  refine Mt.pm 0 ?_
  refine Mt.pu 4 ?_
  refine Wl.indexArr rfl rfl rfl ?_ ?_;constructor <;> omega;apply Wl.nilB
  refine Mt.pn 1 ?_
  refine Mt.pu 5 ?_
  apply Wl.loadF;exact rfl;exact rfl;(intro w' h';first | exact cell_of h'.1 rfl | exact cell_of h'.2 i10x);apply Wl.nilB
  refine Mt.pz 2 ?_
  refine Mt.pu 3 ?_
  apply Wl.loadF;exact rfl;exact rfl;(intro w' h';first | exact cell_of h'.1 rfl | exact cell_of h'.2 i10x);apply Wl.nilB
  refine Mt.e1 6 ?_
  apply Wl.callC
  ·exact rfl
  ·exact ke
  intro wq hq
  refine (wEnd I.wd I.sa _ who _ 1 (regI CD.1.1 10) wq (km hq).ward (List.getElem?_set_self hwl) r10x).mono ?_
  rintro e w14 ⟨rfl,hW14,u14⟩
  have M14 := (km hq).wrd hW14 (by unfold endL;rw [List.length_set]) u14
  have hq14 := Hp.restD hq u14 zy
  have U14 : Upd (KF w I (P.mv pv ev lv (.slice a0 tr.length cS) tr xs pc cf0)) w w14 := (ku hq).comp u14 fun k _ hs => hs.elim id fun h => h.elim (fun e => .inl (.inr (.inr (.inr (.inr (.inl e)))))) fun e => .inl (.inr (.inr (.inr (.inl e))))
  have k7 := hoffs M14 (hq14.own.at (.tail _ (.head _)))
  have k4 := hoffs M14 (hq14.own.at (.tail _ (.tail _ (.head _))))
  have k9 := M14.offF (b := c9) (t := 42) (hq14.own.at (.head _)) ze
  have km := fun {w' : World} (h' : Hp w14 [⟨c9,CD.1.1,42⟩,⟨c7,[.int .i64 (who : Int),.int .i64 ((tr1.length : Int) + 1),.int .i64 1],35⟩,⟨c4,[.int .i64 0,.int .i64 0,.int .i64 0],35⟩] w') => M14.upd (S := fun b => b = c9 ∨ b = c7 ∨ b = c4) (Hp.on3 h' (Upd.refl _ _) (.inl rfl) (.inr (.inl rfl)) (.inr (.inr rfl))) fun b hb hs => hs.elim (k9 b hb) fun hs => hs.elim (k7 b hb) (k4 b hb)
  have ku : ∀ {w' : World},Hp w14 [⟨c9,CD.1.1,42⟩,⟨c7,[.int .i64 (who : Int),.int .i64 ((tr1.length : Int) + 1),.int .i64 1],35⟩,⟨c4,[.int .i64 0,.int .i64 0,.int .i64 0],35⟩] w' → Upd (KF w I (P.mv pv ev lv (.slice a0 tr.length cS) tr xs pc cf0)) w w' := fun h' => Hp.on3 h' U14 (.inr kz) (.inr kz) (.inr hc4)
  refine ⟨_,_,rfl,hq14,?_⟩
  apply Wl.nil
  refine Mt.backE (fun _ h' => ⟨(km h').mm,h'.own.at (.head _)⟩) ?_
  refine Mt.toGt kg ?_
  repeat' first | apply Gt.scopeR | (apply Wl.storeA;exact rfl;exact rfl;exact rfl;exact rfl;exact ke;exact .z (LOver.whole rfl)) | (apply Gt.outC';exact rfl;infer_instance;exact rfl;exact ke;exact ke;intro w' hp) | refine Wl.fieldAddrZ rfl rfl ?_ | (apply Wl.store;exact rfl;exact rfl;exact rfl;exact ke;exact kx) | (apply Wl.loadAH;exact rfl;exact rfl;exact ke;exact ke) | apply Wl.nil | apply St.seq | apply St.region | apply St.ret | apply Gt.next | apply Gt.thenRet | apply Gt.inRet
  subst hr2
  refine ⟨by unfold evV;simp only [hlen],lv10,se6,CD.1.1,pcB s.pc,cf,?_,hD9,Hp.on3 hp U14 (.inr kz) (.inr kz) (.inr hc4),hl10,ho6⟩
  have tf := M14.upd (S := fun b => b = c9 ∨ b = c7 ∨ b = c4) (Hp.on3 hp (Upd.refl _ _) (.inl rfl) (.inr (.inl rfl)) (.inr (.inr rfl))) fun b hb hs => hs.elim (k9 b hb) fun hs => hs.elim (k7 b hb) (k4 b hb)
  unfold endP
  rw [endS3]
  unfold endL at tf
  rw [List.set_set] at tf
  exact tf
 have he1 : decide (CD.1.2 = 1) = false := decide_eq_false hx1
 refine St.reb (H' := [⟨c7,[.int .i64 (who : Int),.int .i64 ((tr1.length : Int) + 1),.int .i64 1],35⟩,⟨c4,[.int .i64 0,.int .i64 0,.int .i64 0],35⟩]) fun w13 h13 => ⟨⟨h13.own.at (.tail _ (.head _)),h13.own.at (.tail _ (.tail _ (.head _))),trivial⟩,⟨⟨kz,trivial⟩,trivial,trivial⟩,?_⟩
 have R13 := mv12 h13
 have hM13 := R13.mon
 have U13 := mu12 h13
 have z13 := U13.size
 have hqt : Hp w13 [⟨c7,[.int .i64 (who : Int),.int .i64 ((tr1.length : Int) + 1),.int .i64 1],35⟩,⟨c4,[.int .i64 0,.int .i64 0,.int .i64 0],35⟩] w13 := ⟨Upd.refl _ _,⟨h13.own.at (.tail _ (.head _)),h13.own.at (.tail _ (.tail _ (.head _))),trivial⟩,⟨⟨kz,trivial⟩,trivial,trivial⟩⟩
 by_cases hx2 : CD.1.2 = 2
 ·have he2 : decide (CD.1.2 = 2) = true := decide_eq_true hx2
  have hcall : callO CD s.pc = ⟨2,0,pcB s.pc,⟨CD.1.1,pcB s.pc,CD.2⟩⟩ := by unfold callO;rw [if_neg hx1,if_pos hx2]
  rw [hcall] at hone
  have hr2 := runF_end (E := E) (n := P.L.length) (who := who) (cf := cfOf E who) hlt (by rw [hone];exact (by decide : (2 : Int) ≠ 0))
  rw [hone,hR1,hrun] at hr2
  simp only at hr2
  have hd21 : decide ((2 : Int) = 1) = false := by decide
  repeat' first | refine Wl.move rfl rfl ?_ | refine Wl.assign rfl rfl ?_ | refine Wl.fieldAddrZ rfl rfl ?_ | (apply Wl.loadH;exact rfl;exact rfl;exact ke;exact rfl) | (apply Wl.eqlIs;exact rfl;exact rfl;exact rfl;exact kv) | refine Wl.eql rfl rfl rfl ?_ | (apply Wl.store;exact rfl;exact rfl;exact rfl;exact ke;exact kx) | apply Wl.nil | apply St.seq | apply St.block | apply St.region | (apply St.condT;exact rfl;exact ka) | (apply St.condF;exact rfl;exact ka) | apply St.skip | apply St.exit | apply Gt.next | apply Gt.thenExit | apply Gt.inExit | (apply Gt.inOther;exact rfl)
  have t7 := hM13.offF (b := c7) (t := 35) (hqt.own.at (.head _)) ze
  have t4 := hM13.offF (b := c4) (t := 35) (hqt.own.at (.tail _ (.head _))) ze
  have hxt : CD.1.1.length = 32 := hM13.hart.1
  have tM : ∀ {w' : World},Hp w13 [⟨c7,[.int .i64 (who : Int),.int .i64 ((tr1.length : Int) + 1),.int .i64 2],35⟩,⟨c4,[.int .i64 0,.int .i64 0,.int .i64 0],35⟩] w' → MonS w' base I ((⟨P.L,P.t,CD.2⟩ : PS).mv pv ev lv10 se6 (tr1 ++ [R1]) CD.1.1 (pcB s.pc) cf) := fun h' => hM13.upd (S := fun b => b = c7 ∨ b = c4) (Hp.on2 h' (Upd.refl _ _) (.inl rfl) (.inr rfl)) fun b hb hs => hs.elim (t7 b hb) (t4 b hb)
  have tU : ∀ {w' : World},Hp w13 [⟨c7,[.int .i64 (who : Int),.int .i64 ((tr1.length : Int) + 1),.int .i64 2],35⟩,⟨c4,[.int .i64 0,.int .i64 0,.int .i64 0],35⟩] w' → Upd (KF w I (P.mv pv ev lv (.slice a0 tr.length cS) tr xs pc cf0)) w w' := fun h' => Hp.on2 h' U13 (.inr kz) (.inr hc4)
  refine St.tree (fun w' => w'.heap[I.m]? = some (.cells #[.pointer (some ⟨I.h,0,none⟩),.pointer (some ⟨I.d,0,none⟩),.pointer (some ⟨I.wd,0,none⟩),se6] 130 (0,0)) ∧ HH w' I.h cf (.pointer (some ⟨I.cM,0,none⟩)) CD.1.1 (pcB s.pc)) mixed (fun _ h' => ⟨Hp.drew h',(tM (Hp.drew h')).mm,(tM (Hp.drew h')).hart⟩) ?_
  refine Mt.pm 0 ?_
  refine Mt.pm 4 ?_
  refine Mt.pm 11 ?_
  refine Mt.pn 1 ?_
  refine Mt.pn 5 ?_
  refine Mt.pn 12 ?_
  refine Mt.pz 2 ?_
  refine Mt.pf 6 ?_
  refine Mt.pf 13 ?_
  refine Mt.pu 3 ?_
  apply Wl.loadF;exact rfl;exact rfl;(intro w' h';first | exact cell_of h'.1 rfl | exact h'.2.at1.1);apply Wl.nilB
  refine Mt.pu 7 ?_
  apply Wl.loadF;exact rfl;exact rfl;(intro w' h';first | exact cell_of h'.1 rfl | exact h'.2.at1.1);apply Wl.nilB
  refine Mt.pu 14 ?_
  apply Wl.loadF;exact rfl;exact rfl;(intro w' h';first | exact cell_of h'.1 rfl | exact h'.2.at1.1);apply Wl.nilB
  refine Mt.pn 8 ?_
  refine Mt.pn 15 ?_
  refine Mt.pf 9 ?_
  refine Mt.pz 16 ?_
  refine Mt.pu 10 ?_
  apply Wl.loadAF (xs := CD.1.1);exact rfl;exact rfl;exact hxt;(intro w' h' j v hj;rw [addLit];exact cell_of h'.2.2 qj);apply Wl.nilB
  refine Mt.pu 17 ?_
  apply Wl.loadF;exact rfl;exact rfl;(intro w' h';first | exact cell_of h'.1 rfl | exact h'.2.at1.1);apply Wl.nilB
  refine Mt.e1 18 ?_
  apply Wl.callC
  ·exact rfl
  ·exact ke
  intro wq hq
  have tq := tM hq
  refine (wKeep I.wd I.sa P.L who x CD.1.1 (pcB s.pc) wq (hw ▸ tq.ward) hx tq.rg.1 tq.rg.2).mono ?_
  rintro e wk ⟨rfl,hWk,uk⟩
  have tk := tq.wrd hWk (List.length_set ..) (uk.mono fun k _ h => .inl h)
  have zk := uk.size
  have hqk := Hp.restD hq uk zy
  have Uk : Upd (KF w I (P.mv pv ev lv (.slice a0 tr.length cS) tr xs pc cf0)) w wk := (tU hq).comp uk fun k _ hs => hs.elim id fun e => .inl (.inr (.inr (.inr (.inr (.inl e)))))
  have k7 := tk.offF (b := c7) (t := 35) (hqk.own.at (.head _)) ze
  have k4 := tk.offF (b := c4) (t := 35) (hqk.own.at (.tail _ (.head _))) ze
  have kM := fun {w' : World} (h' : Hp wk [⟨c7,[.int .i64 (who : Int),.int .i64 ((tr1.length : Int) + 1),.int .i64 2],35⟩,⟨c4,[.int .i64 0,.int .i64 0,.int .i64 0],35⟩] w') => tk.upd (S := fun b => b = c7 ∨ b = c4) (Hp.on2 h' (Upd.refl _ _) (.inl rfl) (.inr rfl)) fun b hb hs => hs.elim (k7 b hb) (k4 b hb)
  refine ⟨_,_,rfl,hqk,?_⟩
  apply Wl.nil
  refine Mt.backE (fun _ h' => ⟨(kM h').mm,(kM h').hart⟩) ?_
  refine Mt.toGt kg ?_
  have gk : wk.cell? ⟨I.m,2,none⟩ = some (.pointer (some ⟨I.wd,0,none⟩)) := cell_of tk.mm rfl
  repeat' first | (apply Wl.loadO;exact rfl;exact rfl;exact zw;exact q5) | refine Wl.move rfl rfl ?_ | refine Wl.nilCheck rfl rfl ?_ | refine Wl.fieldAddrZ rfl rfl ?_ | apply St.seq | apply St.region | apply Gt.next
  apply Wl.callC
  ·exact rfl
  ·exact ke
  intro wq hq
  have tq := kM hq
  refine (wPass I.wd I.sa _ who wq tq.ward (by rw [List.length_set];omega)).mono ?_
  rintro e wp ⟨rfl,hWp,up⟩
  have tp := tq.wrd hWp rfl (up.mono fun k _ h => .inr h)
  have zp := up.size
  have hqp := Hp.restD hq up zy
  have Up : Upd (KF w I (P.mv pv ev lv (.slice a0 tr.length cS) tr xs pc cf0)) w wp := (Hp.on2 hq Uk (.inr kz) (.inr hc4)).comp up fun k _ hs => hs.elim id fun e => .inl (.inr (.inr (.inr (.inl e))))
  have p7 := tp.offF (b := c7) (t := 35) (hqp.own.at (.head _)) ze
  have p4 := tp.offF (b := c4) (t := 35) (hqp.own.at (.tail _ (.head _))) ze
  refine ⟨_,_,rfl,hqp,?_⟩
  repeat' first | apply Gt.scopeR | (apply Wl.storeA;exact rfl;exact rfl;exact rfl;exact rfl;exact ke;exact .z (LOver.whole rfl)) | (apply Gt.outC';exact rfl;infer_instance;exact rfl;exact ke;exact ke;intro w' hp) | (apply Wl.loadAH;exact rfl;exact rfl;exact ke;exact ke) | apply Wl.nil | apply St.seq | apply St.region | apply St.ret | apply Gt.next
  have tf := tp.upd (S := fun b => b = c7 ∨ b = c4) (Hp.on2 hp (Upd.refl _ _) (.inl rfl) (.inr rfl)) fun b hb hs => hs.elim (p7 b hb) (p4 b hb)
  have Uf : Upd (KF w I (P.mv pv ev lv (.slice a0 tr.length cS) tr xs pc cf0)) w w' := Hp.on2 hp Up (.inr kz) (.inr hc4)
  subst hr2
  refine ⟨by unfold evV;simp only [hlen],lv10,se6,CD.1.1,pcB s.pc,cf,?_,hD9,Uf,hl10,ho6⟩
  unfold endP
  rw [endS2]
  exact tf
 have he2 : decide (CD.1.2 = 2) = false := decide_eq_false hx2
 have hcall : callO CD s.pc = ⟨0,0,pcB s.pc,⟨CD.1.1,pcB s.pc,CD.2⟩⟩ := by unfold callO;rw [if_neg hx1,if_neg hx2]
 rw [hcall] at hone
 have hr2 := runF_go (E := E) (n := P.L.length) (who := who) (cf := cfOf E who) hlt (by rw [hone])
 rw [hone,hR1,hrun] at hr2
 repeat' first | refine Wl.move rfl rfl ?_ | refine Wl.assign rfl rfl ?_ | refine Wl.eql rfl rfl rfl ?_ | apply Wl.nil | apply St.seq | apply St.block | apply St.region | (apply St.condF;exact rfl;exact ka) | apply St.skip | apply Gt.next | apply Gt.inNormal
 refine Gt.reb (H' := [⟨c7,[.int .i64 (who : Int),.int .i64 ((tr1.length : Int) + 1),.int .i64 1],35⟩,⟨c4,[.int .i64 0,.int .i64 0,.int .i64 0],35⟩]) fun w7 h7 => ⟨⟨h7.own.at (.head _),h7.own.at (.tail _ (.head _)),trivial⟩,⟨⟨kz,trivial⟩,trivial,trivial⟩,?_⟩
 have t7 := hoffs hM13 (hqt.own.at (.head _))
 have t4 := hoffs hM13 (hqt.own.at (.tail _ (.head _)))
 have R7 := R13.upd (S := fun b => b = c7 ∨ b = c4) (Hp.on2 h7 (Upd.refl _ _) (.inl rfl) (.inr rfl)) (fun b hb hs => hs.elim (t7 b hb) (t4 b hb)) (fun hs => by change cf = c7 ∨ cf = c4 at hs;omega) (fun hs => by change 0 = c7 ∨ 0 = c4 at hs;omega)
 have U7 : Upd (KF w I (P.mv pv ev lv (.slice a0 tr.length cS) tr xs pc cf0)) w w7 := Hp.on2 h7 U13 (.inr kz) (.inr hc4)
 refine Gt.round ⟨w7,⟨CD.1.1,pcB s.pc,CD.2⟩,lv10,se6,tr1 ++ [R1],F2⟩ ⟨⟨R7,hE.upd (U7.mono fun b _ h => hKFb b h),hD9,U7,⟨hl10,ho6⟩,hcfn,m1',m2'⟩,m3',by rw [hlen'];omega,hr2.symm,?_,h7.own.at (.tail _ (.head _))⟩ (by simp only [hlen'];omega) kw (fun _ h => ?_)
 ·simp only [hlen];exact h7.own.at (.head _)
 ·simp only [hlen];exact h
end Go.Proofs.YtabbklpalbikdaaGreatDoor
end
