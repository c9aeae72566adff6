/-
 16 texts,one behind the other;each says what it proves. Conditions: as each text says.
-/
import Derived.Test.YtabbklpalbikdaaGreatDoorM01
import Derived.Laws.ResultCell
import Derived.DeepKeys
import Derived.Laws.BitsLemmas
import Derived.Laws.Bits64
set_option maxHeartbeats 32000000
set_option linter.unusedVariables false
set_option linter.unusedSimpArgs false
section
namespace Go.Proofs.YtabbklpalbikdaaGreatDoor
open Go.RowKit Go.Pt
def tb (a : Int) (j : Nat) : Bool := (BitVec.ofInt 32 a).getLsbD j
theorem ofInt_toNat (x : BitVec 32) : BitVec.ofInt 32 (x.toNat : Int) = x := by
 rw [BitVec.ofInt_natCast];simp
theorem bits_and32 (a b : Int) : bits .and .u32 a b = (((BitVec.ofInt 32 a) &&& (BitVec.ofInt 32 b)).toNat : Int) := by
 show IntKind.u32.wrap (((BitVec.ofInt 32 a) &&& (BitVec.ofInt 32 b)).toNat : Int) = _
 exact IntWalk.u32_in _ ⟨by omega,by have := ((BitVec.ofInt 32 a) &&& (BitVec.ofInt 32 b)).isLt;omega⟩
theorem bits_or32 (a b : Int) : bits .or .u32 a b = (((BitVec.ofInt 32 a) ||| (BitVec.ofInt 32 b)).toNat : Int) := by
 show IntKind.u32.wrap (((BitVec.ofInt 32 a) ||| (BitVec.ofInt 32 b)).toNat : Int) = _
 exact IntWalk.u32_in _ ⟨by omega,by have := ((BitVec.ofInt 32 a) ||| (BitVec.ofInt 32 b)).isLt;omega⟩
theorem bits_andNot32 (a b : Int) : bits .andNot .u32 a b = (((BitVec.ofInt 32 a) &&& ~~~(BitVec.ofInt 32 b)).toNat : Int) := by
 show IntKind.u32.wrap (((BitVec.ofInt 32 a) &&& ~~~(BitVec.ofInt 32 b)).toNat : Int) = _
 exact IntWalk.u32_in _ ⟨by omega,by have := ((BitVec.ofInt 32 a) &&& ~~~(BitVec.ofInt 32 b)).isLt;omega⟩
theorem tb_or (a b : Int) (j : Nat) : tb (bits .or .u32 a b) j = (tb a j || tb b j) := by unfold tb;rw [bits_or32,ofInt_toNat,BitVec.getLsbD_or]
theorem tb_andNot (a b : Int) (j : Nat) (hj : j < 32) : tb (bits .andNot .u32 a b) j = (tb a j && !tb b j) := by unfold tb;rw [bits_andNot32,ofInt_toNat,BitVec.getLsbD_and,BitVec.getLsbD_not];simp [hj]
theorem and8 (a : Int) : bits .and .u32 a 8 = if tb a 3 then 8 else 0 := by
 rw [bits_and32]
 have : BitVec.ofInt 32 a &&& BitVec.ofInt 32 8 = if tb a 3 then 8#32 else 0#32 := by
  apply BitVec.eq_of_getLsbD_eq
  intro i hi
  have hb : ∀ k : Fin 32,(BitVec.ofInt 32 8).getLsbD k.val = decide (k.val = 3) := by decide
  have hb2 : ∀ k : Fin 32,(8#32).getLsbD k.val = decide (k.val = 3) := by decide
  rw [BitVec.getLsbD_and,hb ⟨i,hi⟩]
  unfold tb
  by_cases e : i = 3
  ·subst e;split <;> simp_all
  ·split
   ·rw [hb2 ⟨i,hi⟩];simp [e]
   ·simp [e]
 rw [this];split <;> rfl
set_option linter.unusedVariables false
def dueOf (md st mie mip : Int) : Bool := decide (bits .and .u32 (bits .and .u32 mie mip) 128 ≠ 0) && (decide (md = 0) || tb st 3)
theorem fdue (c : Nat) (md st mie mip tv sc ep ca tl : Int) (cs : List Value) (w : World) (hc : w.heap[c]? = some (.cells (.int .i64 md :: .int .u32 st :: .int .u32 mie :: .int .u32 mip :: .int .u32 tv :: .int .u32 sc :: .int .u32 ep :: .int .u32 ca :: .int .u32 tl :: cs).toArray 145 (0,0))) :
  Calls Tryz.prog 112 #[.pointer (some ⟨c,0,none⟩)] w fun e w' => e = .returned (.bool (dueOf md st mie mip)) ∧ Hp w [] w' := by
 refine enter (args := [_]) (Γ := [(0,_)]) Tryz.func112 Tryz.ntmps112 rfl odq (.cons rfl .nil) ?_
 refine St.cls (C' := Hp w [⟨c,.int .i64 md :: .int .u32 st :: .int .u32 mie :: .int .u32 mip :: .int .u32 tv :: .int .u32 sc :: .int .u32 ep :: .int .u32 ca :: .int .u32 tl :: cs,145⟩]) (fun _ h' => Hp.open h' hc) ?_
 repeat' first | refine Wl.move rfl rfl ?_ | refine Wl.assign rfl rfl ?_ | (apply Wl.on;exact rfl;exact rfl;exact ka) | (apply Wl.off;exact rfl;exact rfl;exact rfl;exact kq) | refine Wl.offU rfl rfl rfl ?_ | refine Wl.nilCheck rfl rfl ?_ | (apply Wl.pickT;exact rfl;exact rfl;exact ka;exact rfl) | (apply Wl.pickF;exact rfl;exact rfl;exact ka;exact rfl) | refine Wl.fieldAddr0 rfl rfl ?_ | refine Wl.fieldAddrZ rfl rfl ?_ | (apply Wl.loadH;exact rfl;exact rfl;exact ke;exact rfl) | refine Wl.neqPN rfl rfl rfl ?_ | refine Wl.eql rfl rfl rfl ?_ | refine Wl.neq rfl rfl rfl ?_ | refine Wl.and rfl rfl rfl ?_ | apply Wl.nil | apply Wl.nilQ | apply St.seq | apply St.region | (apply St.draw;exact mixed;(kernel_rfl);exact (fun _ h => Hp.drew h)) | apply St.ret | apply Gt.next | (apply Gt.out1;exact rfl;exact rfl;intro w' hp) | (apply Wl.splitP;exact rfl;exact rfl;all_goals (intros;try (exfalso;omega))) | (apply Wl.splitB;exact rfl;exact rfl;all_goals intros) | (apply St.condP;exact rfl;all_goals (intros;try (exfalso;omega))) | (apply St.condB;exact rfl;all_goals intros)
 ·rename_i h1 _ h2 _
  refine ⟨?_,Hp.same hp hc⟩
  unfold dueOf
  rw [decide_eq_true h1,decide_eq_true h2];rfl
 ·rename_i h1 _ h2 _
  refine ⟨?_,Hp.same hp hc⟩
  unfold dueOf
  rw [decide_eq_true h1,decide_eq_false h2,and8]
  cases tb st 3 <;> rfl
 ·rename_i h1 _
  refine ⟨?_,Hp.same hp hc⟩
  unfold dueOf
  rw [decide_eq_false h1];rfl
theorem ftrapX (c : Nat) (md st mie mip tv sc ep ca tl : Int) (cs : List Value) (w : World) (pc ca1 tl1 : Int) (hpc : 0 ≤ pc ∧ pc < 4294967296) (hmd : md = 0 ∨ md = 3) (hc : w.heap[c]? = some (.cells (.int .i64 md :: .int .u32 st :: .int .u32 mie :: .int .u32 mip :: .int .u32 tv :: .int .u32 sc :: .int .u32 ep :: .int .u32 ca :: .int .u32 tl :: cs).toArray 145 (0,0))) :
  Calls Tryz.prog 146 #[.pointer (some ⟨c,0,none⟩),.int .u32 pc,.int .u32 ca1,.int .u32 tl1] w fun e w' => e = .returned (.int .u32 tv) ∧ ∃ s',Hp w [⟨c,.int .i64 3 :: .int .u32 s' :: .int .u32 mie :: .int .u32 mip :: .int .u32 tv :: .int .u32 sc :: .int .u32 (pc - pc % 4) :: .int .u32 ca1 :: .int .u32 tl1 :: cs,145⟩] w' ∧
   (0 ≤ s' ∧ s' < 4294967296) ∧ tb s' 3 = false ∧ tb s' 7 = tb st 3 ∧ tb s' 11 = decide (md = 3) ∧ tb s' 12 = decide (md = 3) := by
 refine enter (args := [_,_,_,_]) (Γ := [(0,_),(1,_),(2,_),(3,_)]) Tryz.func146 Tryz.ntmps146 rfl odq (.cons rfl (.cons rfl (.cons rfl (.cons rfl .nil)))) ?_
 refine St.cls (C' := Hp w [⟨c,.int .i64 md :: .int .u32 st :: .int .u32 mie :: .int .u32 mip :: .int .u32 tv :: .int .u32 sc :: .int .u32 ep :: .int .u32 ca :: .int .u32 tl :: cs,145⟩]) (fun _ h' => Hp.open h' hc) ?_
 rw [← low2 pc hpc]
 repeat' first | refine Wl.move rfl rfl ?_ | refine Wl.assign rfl rfl ?_ | refine Wl.nilCheck rfl rfl ?_ | refine Wl.fieldAddr0 rfl rfl ?_ | refine Wl.fieldAddrZ rfl rfl ?_ | (apply Wl.loadH;exact rfl;exact rfl;exact ke;exact rfl) | refine Wl.eqlPN rfl rfl rfl ?_ | refine Wl.neq rfl rfl rfl ?_ | refine Wl.and rfl rfl rfl ?_ | refine Wl.or rfl rfl rfl ?_ | refine Wl.andNot rfl rfl rfl ?_ | (refine Wl.shl rfl rfl rfl ?_ ?_;omega) | (refine Wl.convU32 rfl rfl ?_ ?_;constructor <;> omega) | (apply Wl.store;exact rfl;exact rfl;exact rfl;exact ke;exact kx) | apply Wl.nil | apply St.seq | apply St.region | (apply St.condF;exact rfl;exact ka) | apply St.ret | apply St.skip | apply Gt.next | (apply Gt.out1;exact rfl;exact rfl;intro w' hp) | (apply Wl.splitP;exact rfl;exact rfl;all_goals (intros;try (exfalso;omega))) | (apply Wl.splitB;exact rfl;exact rfl;all_goals intros) | (apply St.condP;exact rfl;all_goals (intros;try (exfalso;omega))) | (apply St.condB;exact rfl;all_goals intros)
 all_goals
  rename_i h1 _
  refine ⟨rfl,_,hp,⟨bits_lo_u32 _ _ _,by have := bits_hi_u32;have := this BinOp.or;exact Int.lt_of_le_of_lt (this _ _) ze⟩,?_⟩
  rw [and8] at h1
  have e0 : IntKind.u32.wrap (0 * 2 ^ min (Int.toNat 11) IntKind.u32.bits) = 0 := by rfl
  have e3 : IntKind.u32.wrap (3 * 2 ^ min (Int.toNat 11) IntKind.u32.bits) = 6144 := by rfl
  rcases hmd with rfl | rfl
  all_goals
   first | rw [e0] | rw [e3]
   simp [tb_or,tb_andNot,show tb 8 3 = true from by decide,show tb 8 7 = false from by decide,show tb 8 11 = false from by decide,show tb 8 12 = false from by decide,
    show tb 6272 7 = true from by decide,show tb 6272 11 = true from by decide,show tb 6272 12 = true from by decide,show tb 128 7 = true from by decide,show tb 128 11 = false from by decide,show tb 128 12 = false from by decide,
    show tb 0 3 = false from by decide,show tb 0 7 = false from by decide,show tb 0 11 = false from by decide,show tb 0 12 = false from by decide,
    show tb 6144 3 = false from by decide,show tb 6144 7 = false from by decide,show tb 6144 11 = true from by decide,show tb 6144 12 = true from by decide]
   simpa using h1
end Go.Proofs.YtabbklpalbikdaaGreatDoor
end
section
namespace Go.Proofs.YtabbklpalbikdaaGreatDoor
end Go.Proofs.YtabbklpalbikdaaGreatDoor
end
section
namespace Go.Pt
open Go.RowKit
def cellsN (k : IntKind) (n : Nat) (f : Nat → Nat) : List Value := (List.range n).map fun j => Value.int k (f j)
theorem cellsN_len (k : IntKind) (n : Nat) (f : Nat → Nat) : (cellsN k n f).length = n := by simp [cellsN]
theorem cellsN_get {k : IntKind} {n i : Nat} {f : Nat → Nat} (h : i < n) : (cellsN k n f)[i]? = some (.int k (f i)) := by simp [cellsN,h]
theorem run_neq_agg {P : Program} (w : World) {t : TypeId} {xs ys : Array Value} {la lb : List Lit} (hk : P.keyTypeAt 8 t = true) (fx : (Value.agg xs).formed P t = true) (fy : (Value.agg ys).formed P t = true) (hx : P.keyLits 8 t xs.toList = some la) (hy : P.keyLits 8 t ys.toList = some lb) :
  ∃ r : Bool,(binOp .eql t (.agg xs) (.agg ys)).run P w = .ok (.bool r) w ∧ (binOp .neq t (.agg xs) (.agg ys)).run P w = .ok (.bool (!r)) w ∧ (r = true ↔ la = lb) := by
 obtain ⟨r,hr,hiff⟩ := run_equalIn_deep 9992 8 t hk w 8 8 (.agg xs) (.agg ys) la lb fx fy hx hy
 refine ⟨r,?_,?_,hiff⟩ <;>
 ·have : (Op.equal t (.agg xs) (.agg ys)).run P w = .ok r w := hr
  simp [binOp,this]
theorem mapM_some {α β : Type} {f : α → Option β} {g : α → β} {l : List α} (h : ∀ x ∈ l,f x = some (g x)) : l.mapM f = some (l.map g) := by
 induction l with
 | nil => rfl
 | cons x r ih => rw [List.mapM_cons,h x qs,ih fun y hy => h y (by simp [hy])];rfl
theorem flat1 {α β : Type} (h : α → β) (l : List α) : (l.map fun i => [h i]).flatten = l.map h := by
 induction l with
 | nil => rfl
 | cons x r ih => simp [ih]
theorem klInt {P : Program} {d t : Nat} {q : IntKind} {n : Int} (ht : P.underlying t = some (.int q)) (hn : q.min ≤ n ∧ n ≤ q.max) : P.keyLits (d + 1) t [.int q n] = some [.int q n] := by
 simp [Program.keyLits,ht,Lit.wf,hn.1,hn.2]
theorem klInts {P : Program} {d t n e : Nat} {q : IntKind} (ht : P.underlying t = some (.array n e)) (he : P.underlying e = some (.int q)) (hs : P.cellsOf t = n) (hse : P.cellsOf e = 1) (f : Nat → Nat) (hf : ∀ j,j < n → q.min ≤ (f j : Int) ∧ (f j : Int) ≤ q.max) :
  P.keyLits (d + 2) t (cellsN q n f) = some ((List.range n).map fun j => Lit.int q (f j)) := by
 show P.keyLits ((d + 1) + 1) t _ = _
 unfold Program.keyLits
 simp only [ht]
 rw [if_pos (by rw [cellsN_len,hs]),mapM_some (g := fun i => [Lit.int q (f i)]) ?_]
 ·simp only [Option.map_some,flat1]
 ·intro i hi
  have hi' : i < n := by simpa using hi
  rw [hse,Nat.mul_one]
  have e1 : ((cellsN q n f).drop i).take 1 = [.int q (f i)] := by
   have h2 : i < (cellsN q n f).length := by rw [cellsN_len];exact hi'
   rw [List.drop_eq_getElem_cons h2]
   simp [cellsN]
  rw [e1]
  exact klInt he (hf i hi')
theorem guard_agg {op : BinOp} {t : TypeId} {P : Program} (hg : P.eqGuardType P.depth t = false) (x y : Operand) (a b : Array Value) (w : World) : (eqGuard op t x y (.agg a) (.agg b)).run P w = .ok () w := by
 cases op <;> simp [eqGuard,hg]
section
variable {P : Program} {md : Md} {N : Nat} {ops : Array Oper} {rest : List Oper} {Γ : Env} {C : World → Prop} {Q : Exit → Act → World → Prop} {d : Nat} {ty : TypeId} {pos : String} {af : Array Edge} {t u : TypeId} {x y : Operand}
section
variable {m n : Nat}
end
theorem Wl.indexA {e by_ n : TypeId} [ht : TyD P t (.array n e)] [TyS P e 1 by_] {i : Operand} {b : Nat} {k : IntKind} {j : Nat} (hd : Nat.blt d N = true) (hx : ev Γ x = some (.pointer (some ⟨b,0,none⟩))) (hi : ev Γ i = some (.int k (j : Int)))
  (hj : j < n) (h : Wl rest P md ops N ((d,.pointer (some ⟨b,j,none⟩)) :: Γ) C Q) : Wl (⟨some d,.indexAddr t x i,ty,pos,af,none⟩ :: rest) P md ops N Γ C Q :=
 Wl.indexArr hd hx hi ⟨by omega,by omega⟩ (by rw [Int.toNat_natCast,Nat.mul_one,Nat.zero_add];exact h)
theorem Wl.indexAo {e by_ n : TypeId} [ht : TyD P t (.array n e)] [TyS P e 1 by_] {i : Operand} {b o : Nat} {k : IntKind} {j : Nat} (hd : Nat.blt d N = true) (hx : ev Γ x = some (.pointer (some ⟨b,o,none⟩))) (hi : ev Γ i = some (.int k (j : Int)))
  (hj : j < n) (h : Wl rest P md ops N ((d,.pointer (some ⟨b,o + j,none⟩)) :: Γ) C Q) : Wl (⟨some d,.indexAddr t x i,ty,pos,af,none⟩ :: rest) P md ops N Γ C Q :=
 Wl.indexArr hd hx hi ⟨by omega,by omega⟩ (by rw [Int.toNat_natCast,Nat.mul_one];exact h)
end
attribute [irreducible] cellsN
theorem LOver.whole {l xs : List Value} (h : l.length = xs.length) : LOver l xs xs := by
 induction xs generalizing l with
 | nil => cases l with
  | nil => exact .nil
  | cons _ _ => simp at h
 | cons x r ih => cases l with
  | nil => simp at h
  | cons y s => exact .cons (ih (by simpa using h))
section
variable {P : Program} {md : Md} {N : Nat} {ops : Array Oper} {rest : List Oper} {Γ : Env} {Q : Exit → Act → World → Prop} {d : Nat} {ty : TypeId} {pos : String} {af : Array Edge} {t : TypeId} {x y : Operand}
end
theorem Gt.outCT {P : Program} {N : Nat} {Γ : Env} {w0 : World} {H : List Blk} {fn : Func} {R : Ending → World → Prop} {t u ty n c i bt : Nat} {v : Value} {cs xs : List Value} (hr : fn.results = #[.cell t ty,.tmp u]) (hT : TyA P ty n) (ht : look Γ t = some (.pointer (some ⟨c,i,none⟩))) (hu : look Γ u = some v) (hm : (⟨c,cs,bt⟩ : Blk) ∈ H) (hi' : LSub cs i n xs)
  (h : ∀ w,Hp w0 H w → R (.returned (.tuple #[.agg xs.toArray,v])) w) : Gt N .ret Γ (Hp w0 H) (bodyPost P fn R) := Gt.intro fun a w ha hw => by
 have hi := hi'.out.1
 have hn := hi'.out.2
 refine ⟨ha.defers,_,?_,h w hw⟩
 have hl := run_loadA (P := P) (t := ty) (w := w) (a := ⟨c,i,none⟩) hn (fun j v hj => by
  rw [addLit]
  refine hw.cell hm ?_
  subst hi
  rw [List.getElem?_take] at hj
  split at hj
  ·simpa [List.getElem?_drop] using hj
  ·cases hj)
 rw [results_cell_tmp hr]
 simp [ha.get _ _ ht,ha.get _ _ hu,asAddr,hl]
theorem Gt.outC' {P : Program} {N : Nat} {Γ : Env} {w0 : World} {H : List Blk} {fn : Func} {R : Ending → World → Prop} {t ty n c i bt : Nat} {cs xs : List Value} (hr : fn.results = #[.cell t ty]) (hT : TyA P ty n) (ht : look Γ t = some (.pointer (some ⟨c,i,none⟩))) (hm : (⟨c,cs,bt⟩ : Blk) ∈ H) (hi' : LSub cs i n xs)
  (h : ∀ w,Hp w0 H w → R (.returned (.agg xs.toArray)) w) : Gt N .ret Γ (Hp w0 H) (bodyPost P fn R) := Gt.outC hr ht hm hi' h
end Go.Pt
end
section
namespace Go.Pt
open Go.RowKit
theorem LSet.app {xs r r' : List Value} {i : Nat} {v : Value} (h : LSet r i v r') : LSet (xs ++ r) (xs.length + i) v (xs ++ r') := by
 induction xs with
 | nil => simpa using h
 | cons x s ih => rw [List.length_cons,show s.length + 1 + i = (s.length + i) + 1 by omega];exact .s ih
section
variable {P : Program} {md : Md} {N : Nat} {ops : Array Oper} {rest : List Oper} {Γ : Env} {Q : Exit → Act → World → Prop} {d : Nat} {ty : TypeId} {pos : String} {af : Array Edge} {t : TypeId} {x y : Operand}
theorem Wl.loadHi (i : Nat) {w0 : World} {H : List Blk} {bt : TypeId} [TyC P t] {c j : Nat} {xs r : List Value} {v : Value} (hd : Nat.blt d N = true) (hx : ev Γ x = some (.pointer (some ⟨c,j,none⟩))) (hm : (⟨c,xs ++ r,bt⟩ : Blk) ∈ H) (hl : xs.length = 32) (hj : j = 32 + i) (hv : r[i]? = some v)
  (h : Wl rest P md ops N ((d,v) :: Γ) (Hp w0 H) Q) : Wl (⟨some d,.load t x,ty,pos,af,none⟩ :: rest) P md ops N Γ (Hp w0 H) Q :=
 Wl.loadH hd hx hm (by rw [hj,← hl,List.getElem?_append_right ky,Nat.add_sub_cancel_left];exact hv) h
theorem Wl.storeHi (i : Nat) {w0 : World} {H H' : List Blk} {bt by_ : TypeId} [TyS P t 1 by_] {c j : Nat} {v : Value} {xs r r' : List Value} (hx : ev Γ x = some (.pointer (some ⟨c,j,none⟩))) (hy : ev Γ y = some v) (h1 : v.oneCell' = true) (hs : HSet c (xs ++ r) (xs ++ r') bt H H') (hl : xs.length = 32) (hj : j = 32 + i) (hr : LSet r i v r')
  (h : Wl rest P .seq ops N Γ (Hp w0 H') Q) : Wl (⟨none,.store t x y,ty,pos,af,none⟩ :: rest) P .seq ops N Γ (Hp w0 H) Q := Wl.store hx hy h1 hs (by rw [hj,← hl];exact hr.app) h
end
end Go.Pt
namespace Go.Proofs.YtabbklpalbikdaaGreatDoor
open Go.RowKit Go.Pt
def HH (w : World) (h c : Nat) (vM : Value) (xs : List Value) (pc : Int) : Prop := xs.length = 32 ∧ w.heap[h]? = some (.cells (xs ++ [.int .u32 pc,.pointer (some ⟨c,0,none⟩),vM]).toArray 133 (0,0))
theorem HH.lt {w : World} {h c : Nat} {vM : Value} {xs : List Value} {pc : Int} (k : HH w h c vM xs pc) : h < w.heap.size := lt_of_block k.2
theorem HH.upd {w w' : World} {h c : Nat} {vM : Value} {xs : List Value} {pc : Int} {S : Nat → Prop} (k : HH w h c vM xs pc) (u : Upd S w w') (hs : ¬ S h) : HH w' h c vM xs pc := ⟨k.1,u.heap k.2 hs⟩
theorem of_any (op o rd r1 r2 im : Int) (w : World) :
  Calls Tryz.prog 161 #[.int .i64 op,.agg #[.int .i64 o,.int .i64 rd,.int .i64 r1,.int .i64 r2,.int .u32 im]] w fun e w' => e = .returned (if op = 0 then .agg #[.int .i64 0,.int .i64 0,.int .i64 0,.int .i64 0,.int .u32 0] else .agg #[.int .i64 op,.int .i64 rd,.int .i64 r1,.int .i64 r2,.int .u32 im]) ∧ Hp w [] w' := by
 refine enter (args := [_,_]) (Γ := [(0,_),(1,_)]) Tryz.func161 Tryz.ntmps161 rfl odq (.cons rfl (.cons rfl .nil)) ?_
 repeat' first | (apply Gt.outC';exact rfl;infer_instance;exact rfl;exact ke;exact ke;intro w' hp) | refine Wl.move rfl rfl ?_ | refine Wl.fieldAddr0 rfl rfl ?_ | refine Wl.eql rfl rfl rfl ?_ | (apply Wl.store;exact rfl;exact rfl;exact rfl;exact ke;exact kx) | (apply Wl.storeA;exact rfl;exact rfl;exact rfl;exact rfl;exact ke;exact kf) | (apply Wl.loadAH;exact rfl;exact rfl;exact ke;exact ke) | (apply Wl.buildS;exact rfl;exact ki;exact kc) | (apply Wl.boxA;exact rfl;exact rfl;intro c hc ho) | (apply Wl.alloc;exact rfl;intro c hc ho) | apply Wl.nil | apply St.seq | apply St.region | apply St.ret | apply St.skip | apply Gt.next | apply Gt.thenRet | (apply Wl.splitP;exact rfl;exact rfl;all_goals (intros;try (exfalso;omega))) | (apply Wl.splitB;exact rfl;exact rfl;all_goals intros) | (apply St.condP;exact rfl;all_goals (intros;try (exfalso;omega))) | (apply St.condB;exact rfl;all_goals intros)
 ·rw [if_pos qg]
  exact ⟨rfl,hp.drop zx⟩
 ·rw [if_neg qg]
  exact ⟨rfl,hp.drop zx⟩
theorem own_at {w : World} {H : List Blk} {b t : Nat} {cs : List Value} (h : Own w H) (hm : (⟨b,cs,t⟩ : Blk) ∈ H) : w.heap[b]? = some (.cells cs.toArray t (0,0)) := h.at hm
theorem agg_of {w : World} {c : Nat} {cs : List Value} {t : TypeId} (h : w.heap[c]? = some (.cells cs.toArray t (0,0))) : ∀ j v,cs[j]? = some v → w.cell? ((⟨c,0,none⟩ : Addr).add j) = some v := by
 intro j v hj
 rw [addLit,Nat.zero_add]
 exact cell_of h hj
end Go.Proofs.YtabbklpalbikdaaGreatDoor
end
section
namespace Go.Pt
open Go.RowKit
end Go.Pt
namespace Go.Proofs.YtabbklpalbikdaaGreatDoor
open Go.RowKit Go.Pt
def xz : List Value := [.int .u32 0,.int .u32 0,.int .u32 0,.int .u32 0,.int .u32 0,.int .u32 0,.int .u32 0,.int .u32 0,.int .u32 0,.int .u32 0,.int .u32 0,.int .u32 0,.int .u32 0,.int .u32 0,.int .u32 0,.int .u32 0,.int .u32 0,.int .u32 0,.int .u32 0,.int .u32 0,.int .u32 0,.int .u32 0,.int .u32 0,.int .u32 0,.int .u32 0,.int .u32 0,.int .u32 0,.int .u32 0,.int .u32 0,.int .u32 0,.int .u32 0,.int .u32 0]
def fz (n : Int) : List Value := .int .i64 3 :: .int .u32 0 :: .int .u32 0 :: .int .u32 0 :: .int .u32 0 :: .int .u32 0 :: .int .u32 0 :: .int .u32 0 :: .int .u32 0 :: [.int .u8 0,.int .u8 0,.int .u8 0,.int .u8 0,.int .u8 0,.int .u8 0,.int .u8 0,.int .u8 0,.int .u8 0,.int .u8 0,.int .u8 0,.int .u8 0,.int .u8 0,.int .u8 0,.int .u8 0,.int .u8 0,
 .int .u32 0,.int .u32 0,.int .u32 0,.int .u32 0,.int .u32 0,.int .u32 0,.int .u32 0,.int .u32 0,.int .u32 0,.int .u32 0,.int .u32 0,.int .u32 0,.int .u32 0,.int .u32 0,.int .u32 0,.int .u32 0,.int .u64 n,.int .u64 n]
theorem FF.two {w : World} {c : Nat} {md tv : Int} (h : FF w c md tv) : w.cell? ⟨c,0,none⟩ = some (.int .i64 md) := by
 obtain ⟨st,mie,mip,sc,ep,ca,tl,cs,hk,hc⟩ := h
 exact cell_of hc rfl
theorem HH.at1 {w : World} {h c : Nat} {vM : Value} {xs : List Value} {pc : Int} (k : HH w h c vM xs pc) : w.cell? ⟨h,32,none⟩ = some (.int .u32 pc) ∧ w.cell? ⟨h,33,none⟩ = some (.pointer (some ⟨c,0,none⟩)) ∧ w.cell? ⟨h,34,none⟩ = some vM := by
 obtain ⟨hl,hh⟩ := k
 refine ⟨cell_of hh ?_,cell_of hh ?_,cell_of hh ?_⟩
 ·rw [show (32 : Nat) = xs.length + 0 by omega,List.getElem?_append_right ky,Nat.add_sub_cancel_left];rfl
 ·rw [show (33 : Nat) = xs.length + 1 by omega,List.getElem?_append_right ky,Nat.add_sub_cancel_left];rfl
 ·rw [show (34 : Nat) = xs.length + 2 by omega,List.getElem?_append_right ky,Nat.add_sub_cancel_left];rfl
end Go.Proofs.YtabbklpalbikdaaGreatDoor
end
section
namespace Go.Pt
open Go.RowKit
section
variable {P : Program} {md : Md} {N : Nat} {ops : Array Oper} {rest : List Oper} {Γ : Env} {C : World → Prop} {Q : Exit → Act → World → Prop} {d : Nat} {ty : TypeId} {pos : String} {af : Array Edge} {t u : TypeId} {x y : Operand}
theorem Wl.fieldV {s i off ft : Nat} [hf : Fld P s i off ft] [TyC P ft] {cs : List Value} {v : Value} (hd : Nat.blt d N = true) (hx : ev Γ x = some (.agg cs.toArray)) (hv : cs[off]? = some v) (h : Wl rest P md ops N ((d,v) :: Γ) C Q) :
  Wl (⟨some d,.field s x i,ty,pos,af,none⟩ :: rest) P md ops N Γ C Q :=
 Wl.val hd (fun a w ha _ => by
  have h := hf.out
  unfold fieldB at h
  split at h <;> try cases h
  rename_i fs hfs
  cases e : fs[i]? with
  | none => rw [e] at h;cases h
  | some f =>
   rw [e] at h;simp at h
   obtain ⟨h1,h2,h3⟩ := h
   subst h1 h2
   have hv' : cs.toArray[f.offset]? = some v := by simpa using hv
   simp [execOp,ha.ev hx,Instr.field,run_underlying hfs,e,part,run_aggC (P := P) (t := f.type),asAgg,hv]) h
theorem Wl.eqlG {xs ys : Array Value} {la lb : List Lit} (hd : Nat.blt d N = true) (hx : ev Γ x = some (.agg xs)) (hy : ev Γ y = some (.agg ys)) (hk : P.keyTypeAt 8 t = true) (hg0 : P.eqGuardType P.depth t = false) (fx : (Value.agg xs).formed P t = true) (fy : (Value.agg ys).formed P t = true)
  (hlx : P.keyLits 8 t xs.toList = some la) (hly : P.keyLits 8 t ys.toList = some lb) (b : Bool) (hb : b = true ↔ la = lb) (h : Wl rest P md ops N ((d,.bool b) :: Γ) C Q) : Wl (⟨some d,.binOp .eql t x y u,ty,pos,af,none⟩ :: rest) P md ops N Γ C Q :=
 Wl.val hd (fun a w ha _ => by
  obtain ⟨r,h1,_,h3⟩ := run_neq_agg (P := P) w (t := t) hk fx fy hlx hly
  have : r = b := by rw [Bool.eq_iff_iff,h3,hb]
  subst this
  simp only [execOp,ha.ev hx,ha.ev hy,pure_bind,Sem.run_bind,guard_agg (P := P) hg0,Result.andThen_ok,h1];rfl) h
end
end Go.Pt
namespace Go.Proofs.YtabbklpalbikdaaGreatDoor
open Go.RowKit Go.Pt
theorem hnew (a : Option Addr) (w : World) : Calls Tryz.prog 90 #[.pointer a] w fun e w' => ∃ h cf,e = .returned (.pointer (some ⟨h,0,none⟩)) ∧ Hp w [⟨h,xz ++ [Value.int .u32 0,Value.pointer (some ⟨cf,0,none⟩),Value.pointer a],133⟩,⟨cf,fz 0,145⟩] w' ∧ w.heap.size ≤ h ∧ w.heap.size ≤ cf ∧ h ≠ cf := by
 refine enter (args := [_]) (Γ := [(0,_)]) Tryz.func90 Tryz.ntmps90 rfl odq (.cons rfl .nil) ?_
 repeat' first | (apply Gt.inl1;exact rfl;exact rfl) | (apply Wl.inline;exact rfl;exact ke;exact rfl;exact rfl) | refine Wl.move rfl rfl ?_ | refine Wl.assign rfl rfl ?_ | (apply Wl.buildS;exact rfl;exact ki;exact kc) | (apply Wl.boxA;exact rfl;exact rfl;intro c hc ho) | apply Wl.nil | apply St.seq | apply St.region | apply St.ret | apply Gt.next | (apply Gt.out1;exact rfl;exact rfl;intro w' hp) | (apply Wl.splitP;exact rfl;exact rfl;all_goals (intros;try (exfalso;omega))) | (apply Wl.splitB;exact rfl;exact rfl;all_goals intros) | (apply St.condP;exact rfl;all_goals (intros;try (exfalso;omega))) | (apply St.condB;exact rfl;all_goals intros)
 rename_i cf hcf hof
 exact ⟨_,_,rfl,hp,hc,hcf,fun e => ho.1 e.symm⟩
theorem newHp {w wq w1 : World} {S : Nat → Prop} (h : Upd (fun k => w.heap.size ≤ k) w wq) (u : Upd S wq w1) (hs : ∀ k,S k → w.heap.size ≤ k) : Hp w [] w1 :=
 ⟨(h.comp u (T := fun k => w.heap.size ≤ k) fun k _ e => e.elim id (hs k)).mono fun k hk e => by omega,trivial,trivial⟩
def tabL : List Int := [0,1,28,2,29,14,24,3,30,22,20,15,25,17,4,8,31,27,13,23,21,19,16,7,26,12,18,6,11,5,10,9]
def tabOk (w : World) : Prop := ∀ i : Nat,i < 32 → ∃ z : Int,tabL[i]? = some z ∧ (0 ≤ z ∧ z ≤ 31) ∧ w.cell? ⟨0,i,none⟩ = some (.int .u8 z)
theorem tabOk.upd {w w' : World} {S : Nat → Prop} (h : tabOk w) (u : Upd S w w') (hs : ¬ S 0) : tabOk w' := fun i hi => by
 obtain ⟨z,h1,h2,h3⟩ := h i hi
 exact ⟨z,h1,h2,u.cell h3 hs⟩
theorem tabOk.lt {w : World} (h : tabOk w) : 0 < w.heap.size := by
 obtain ⟨z,_,_,h3⟩ := h 0 ze
 exact cell_old h3
theorem idx27 (x : Int) : 0 ≤ (IntKind.u32.wrap x).fdiv (2 ^ min (Int.toNat 27) IntKind.u32.bits) ∧ (IntKind.u32.wrap x).fdiv (2 ^ min (Int.toNat 27) IntKind.u32.bits) < 32 := by
 have h := wrap_within .u32 x
 have h' : 0 ≤ IntKind.u32.wrap x ∧ IntKind.u32.wrap x ≤ 4294967295 := h
 rw [show ((2 : Int) ^ min (Int.toNat 27) IntKind.u32.bits) = 134217728 from rfl,Int.fdiv_eq_ediv_of_nonneg _ ze]
 omega
instance entTz : Ent Tryz.prog 128 := ent_of Tryz.func128 zg zg
def entG (b a : Int) : List Value := [.int .i64 (IntKind.i64.wrap (bits .and .u8 (b.fdiv (2 ^ min (Int.toNat 3) IntKind.u8.bits)) 3)),.int .i64 (IntKind.i64.wrap (bits .and .u8 b 7)),.int .u32 a]
def entsG (g ad : Nat → Int) (n : Nat) : List Value := ((List.range n).map fun i => entG (g i) (ad i)).flatten
theorem entsG_succ (g ad : Nat → Int) (n : Nat) : entsG g ad (n + 1) = entsG g ad n ++ entG (g n) (ad n) := by
 unfold entsG
 rw [List.range_succ,List.map_append,List.flatten_append]
 simp
theorem entsG_len (g ad : Nat → Int) (n : Nat) : (entsG g ad n).length = n * 3 := by
 induction n with
 | zero => rfl
 | succ n ih => rw [entsG_succ,List.length_append,ih,Nat.succ_mul];rfl
theorem entsG_at (g ad : Nat → Int) {n i j : Nat} (hi : i < n) (hj : j < 3) : (entsG g ad n)[i * 3 + j]? = (entG (g i) (ad i))[j]? := by
 induction n with
 | zero => omega
 | succ n ih =>
  rw [entsG_succ]
  by_cases e : i = n
  ·subst e
   rw [List.getElem?_append_right (by rw [entsG_len];omega),entsG_len]
   congr 1;omega
  ·rw [List.getElem?_append_left (by rw [entsG_len];omega)]
   exact ih ky
theorem pmpOf (b a : Int) (w : World) : Calls Tryz.prog 191 #[.int .u8 b,.int .u32 a] w fun e w' => e = .returned (.agg #[.int .i64 (IntKind.i64.wrap (bits .and .u8 (b.fdiv (2 ^ min (Int.toNat 3) IntKind.u8.bits)) 3)),.int .i64 (IntKind.i64.wrap (bits .and .u8 b 7)),.int .u32 a]) ∧ Hp w [] w' := by
 refine enter (args := [_,_]) (Γ := [(0,_),(1,_)]) Tryz.func191 Tryz.ntmps191 rfl odq (.cons rfl (.cons rfl .nil)) ?_
 repeat' first | (apply Gt.outC';exact rfl;infer_instance;exact rfl;exact ke;exact ke;intro w' hp) | refine Wl.move rfl rfl ?_ | refine Wl.and rfl rfl rfl ?_ | (refine Wl.shr rfl rfl rfl ?_ ?_;omega) | refine Wl.convI rfl rfl ?_ | (apply Wl.storeA;exact rfl;exact rfl;exact rfl;exact rfl;exact ke;exact kf) | (apply Wl.buildS;exact rfl;exact ki;exact kc) | (apply Wl.alloc;exact rfl;intro c hc ho) | apply Wl.nil | apply St.seq | apply St.region | apply St.ret | apply Gt.next
 exact ⟨rfl,hp.drop zx⟩
theorem entries_any (b : Nat) (g ad : Nat → Int) (w : World) (hb : b < w.heap.size) (hcfg : ∀ j : Nat,j < 16 → w.cell? ⟨b,9 + j,none⟩ = some (.int .u8 (g j))) (haddr : ∀ j : Nat,j < 16 → w.cell? ⟨b,25 + j,none⟩ = some (.int .u32 (ad j))) :
  Calls Tryz.prog 148 #[.pointer (some ⟨b,0,none⟩)] w fun e w' => ∃ v,e = .returned v ∧ w'.ownsRow w.heap.size 160 3 v 16 (entsG g ad 16) ∧ Upd (fun k => w.heap.size ≤ k) w w' := by
 refine enter (args := [_]) (Γ := [(0,_)]) Tryz.func148 Tryz.ntmps148 rfl odq (.cons rfl .nil) ?_
 repeat' first | refine Wl.move rfl rfl ?_ | refine Wl.assign rfl rfl ?_ | refine Wl.eqlPN rfl rfl rfl ?_ | apply Wl.nil | apply St.seq | apply St.block | apply St.region | (apply St.condF;exact rfl;exact ka) | apply St.skip | apply Gt.next
 refine St.loop (σ := Nat × World × Value) (fun τ => τ.1 ≤ 16 ∧ Upd (fun k => w.heap.size ≤ k) w τ.2.1 ∧ τ.2.1.ownsRow w.heap.size 160 3 τ.2.2 τ.1 (entsG g ad τ.1))
  (fun τ => [(7,.int .i64 τ.1),(3,τ.2.2),(0,.pointer (some ⟨b,0,none⟩))]) (fun τ => Hp τ.2.1 []) (fun τ => 16 - τ.1) (0,w,.slice none 0 0) ⟨by simp,Upd.refl _ _,World.ownsRow_nil _ _ _ _⟩ kw (fun _ h => h) ?_
 rintro ⟨i,w0,v⟩ ⟨hi,hu,hol⟩
 simp only at hi hu hol ⊢
 by_cases hlt : i < 16
 ·have hc0 : w0.cell? ⟨b,9 + i,none⟩ = some (.int .u8 (g i)) := hu.cell (hcfg i hlt) q7
  have ha0 : w0.cell? ⟨b,25 + i,none⟩ = some (.int .u32 (ad i)) := hu.cell (haddr i hlt) q7
  repeat' first | refine Wl.move rfl rfl ?_ | refine Wl.assign rfl rfl ?_ | refine Wl.lss rfl rfl rfl ?_ | apply Wl.nil | apply St.seq | apply St.block | apply St.region | apply St.skip | apply Gt.next | (apply St.condP;exact rfl;all_goals (intros;try (exfalso;omega)))
  have hc1 : w.cell? ⟨b,9 + i,none⟩ = some (.int .u8 (g i)) := hcfg i hlt
  have ha1 : w.cell? ⟨b,25 + i,none⟩ = some (.int .u32 (ad i)) := haddr i hlt
  refine St.tree (Hp w []) mixed (fun _ h => ⟨Hp.drew h,Hp.under (Hp.drew h) hu⟩) ?_
  refine Mt.pm 0 ?_
  refine Mt.pm 1 ?_
  refine Mt.pm 2 ?_
  refine Mt.pn 3 ?_
  refine Mt.pz 4 ?_
  refine Mt.pu 5 ?_
  refine Wl.indexAo rfl rfl rfl ?_ ?_;omega;apply Wl.nilB
  refine Mt.pu 6 ?_
  apply Wl.loadO;exact rfl;exact rfl;(assumption);(repeat (first | exact trivial | refine ⟨by first | assumption | omega,?_⟩));apply Wl.nilB
  refine Mt.pm 7 ?_
  refine Mt.pm 8 ?_
  refine Mt.pn 9 ?_
  refine Mt.pz 10 ?_
  refine Mt.pu 11 ?_
  refine Wl.indexAo rfl rfl rfl ?_ ?_;omega;apply Wl.nilB
  refine Mt.pu 12 ?_
  apply Wl.loadO;exact rfl;exact rfl;(assumption);(repeat (first | exact trivial | refine ⟨by first | assumption | omega,?_⟩));apply Wl.nilB
  refine Mt.e1 13 ?_
  apply Wl.callQ
  exact rfl
  (focus repeat constructor)
  ·intro wq hq
   exact hq.q (pmpOf (g i) (ad i) wq)
  apply Wl.nil
  refine Mt.backE (fun u h => Hp.under h hu) ?_
  refine Mt.e1 14 ?_
  apply Wl.lit
  ·exact rfl
  ·(repeat (first | exact Parts.nil | apply Parts.cons rfl))
  ·exact rfl
  ·exact rfl
  ·(repeat (first | apply CatP.nil | (apply CatP.one;exact rfl;exact rfl) | (apply CatP.agg;exact rfl) | apply LApp.nil | apply LApp.cons))
  intro d hd hod
  apply Wl.nil
  refine Mt.backE (fun u h => Hp.under (Hp.pop h hd) hu) ?_
  refine Mt.e1 15 ?_
  apply Wl.appendT
  ·exact rfl
  ·exact rfl
  ·exact rfl
  ·exact hd
  ·exact rfl
  ·exact hol
  ·exact fun k hk => trivial
  ·exact rfl
  ·exact rfl
  ·decide
  ·unfold maxLen;omega
  ·omega
  ·exact hu.size
  intro v' w1 ho1 u1 _ hoff1
  have hu1 : Upd (fun k => w.heap.size ≤ k) w w1 := hu.comp u1 fun k hk hs => hs.elim id fun hs => hs.elim (fun e => (hol.lt k e).1) fun y => (y trivial).elim
  apply Wl.nil
  refine Mt.backE (fun u h => Hp.under h hu1) ?_
  refine Mt.pu 16 ?_
  refine Wl.assign rfl rfl (Wl.nilB ?_)
  refine Mt.toGt kg ?_
  repeat' first | refine Wl.move rfl rfl ?_ | (refine Wl.addI rfl rfl rfl ?_ ?_;constructor <;> omega) | apply Wl.nil | apply St.region | apply Gt.next | apply Gt.inNormal
  apply Gt.round (i + 1,w1,v')
  rotate_left
  ·simp only;omega
  ·exact ke
  ·exact fun _ h => h
  ·exact ⟨by simp only;omega,hu1,by simp only;rw [entsG_succ];exact ho1⟩
 ·have hie : i = 16 := by omega
  subst hie
  repeat' first | refine Wl.move rfl rfl ?_ | refine Wl.assign rfl rfl ?_ | refine Wl.lss rfl rfl rfl ?_ | apply Wl.nil | apply St.seq | apply St.region | (apply St.condF;exact rfl;exact ka) | apply St.ret | apply St.exit | apply Gt.next | apply Gt.thenExit | apply Gt.inExit | (apply Gt.out1;exact rfl;exact rfl;intro w' hp)
  exact ⟨v,rfl,ownsRow_upd hol hp.upd (fun k _ y => y trivial),hu.comp hp.upd fun k _ hs => hs.elim id fun y => (y trivial).elim⟩
def intAt (cs : List Value) (i : Nat) : Int := match cs[i]? with
 | some (.int _ z) => z
 | _ => 0
theorem Kd.at {kd : Nat → IntKind} {n i : Nat} {cs : List Value} (h : Kd kd n cs) (hi : i < n) : cs[i]? = some (.int (kd i) (intAt cs i)) := by
 obtain ⟨x,hx⟩ := h.2 i hi
 unfold intAt
 rw [hx]
def fileC (md st mie mip tv sc ep ca tl : Int) (cs : List Value) : List Value := .int .i64 md :: .int .u32 st :: .int .u32 mie :: .int .u32 mip :: .int .u32 tv :: .int .u32 sc :: .int .u32 ep :: .int .u32 ca :: .int .u32 tl :: cs
theorem cfg_cells {w : World} {c : Nat} {md st mie mip tv sc ep ca tl : Int} {cs : List Value} (hk : Kd fkd 34 cs) (h : w.heap[c]? = some (.cells (fileC md st mie mip tv sc ep ca tl cs).toArray 145 (0,0))) :
  (∀ j : Nat,j < 16 → w.cell? ⟨c,9 + j,none⟩ = some (.int .u8 (intAt cs j))) ∧ ∀ j : Nat,j < 16 → w.cell? ⟨c,25 + j,none⟩ = some (.int .u32 (intAt cs (16 + j))) := by
 refine ⟨fun j hj => cell_of h ?_,fun j hj => cell_of h ?_⟩
 ·have := Kd.at hk (i := j) ky
  rw [fkd8 hj] at this
  rw [show 9 + j = j + 9 by omega]
  exact this
 ·have := Kd.at hk (i := 16 + j) ky
  rw [fkd32 ky ky] at this
  rw [show 25 + j = (16 + j) + 9 by omega]
  exact this
theorem wr32 (x : Int) : 0 ≤ IntKind.u32.wrap x ∧ IntKind.u32.wrap x < 4294967296 := by
 have h : 0 ≤ IntKind.u32.wrap x ∧ IntKind.u32.wrap x ≤ 4294967295 := wrap_within .u32 x
 omega
theorem br32 (op : BinOp) (a b : Int) : 0 ≤ bits op .u32 a b ∧ bits op .u32 a b < 4294967296 := by
 have h : 0 ≤ bits op .u32 a b ∧ bits op .u32 a b ≤ 4294967295 := bits_within op .u32 a b
 omega
theorem b64 (op : BinOp) (a b : Int) : -9223372036854775808 ≤ bits op .u32 a b ∧ bits op .u32 a b ≤ 9223372036854775807 := by
 have := br32 op a b
 omega
theorem fd32 {a : Int} {k : Nat} (h : 0 ≤ a ∧ a < 4294967296) : 0 ≤ a.fdiv (2 ^ k) ∧ a.fdiv (2 ^ k) < 4294967296 := by
 have hp : (0 : Int) < 2 ^ k := Int.pow_pos ze
 rw [Int.fdiv_eq_ediv_of_nonneg _ (Int.le_of_lt hp)]
 exact ⟨Int.ediv_nonneg h.1 (Int.le_of_lt hp),Int.lt_of_le_of_lt (Int.ediv_le_self _ h.1) h.2⟩
theorem tm32 {a b : Int} (h : 0 ≤ a ∧ a < 4294967296) : 0 ≤ a.tmod b ∧ a.tmod b < 4294967296 := by
 refine ⟨Int.tmod_nonneg _ h.1,?_⟩
 obtain ⟨n,rfl⟩ := Int.eq_ofNat_of_zero_le h.1
 have h2 : ((n : Int).tmod b) ≤ n := by
  rcases Int.natAbs_eq b with e | e <;> rw [e]
  ·rw [← Int.ofNat_tmod];exact Int.ofNat_le.2 (Nat.mod_le _ _)
  ·rw [Int.tmod_neg,← Int.ofNat_tmod];exact Int.ofNat_le.2 (Nat.mod_le _ _)
 omega
theorem andK (a : Int) (k : Nat) (hk : k < 4294967296) : 0 ≤ bits .and .u32 a (k : Int) ∧ bits .and .u32 a (k : Int) ≤ k := by
 rw [bits_and32]
 refine ⟨by omega,?_⟩
 rw [BitVec.toNat_and]
 have : (BitVec.ofInt 32 (k : Int)).toNat = k := by rw [BitVec.ofInt_natCast,BitVec.toNat_ofNat];exact Nat.mod_eq_of_lt hk
 rw [this]
 exact Int.ofNat_le.2 Nat.and_le_right
theorem and31 (a : Int) : 0 ≤ bits .and .u32 a 31 ∧ bits .and .u32 a 31 < 32 := by
 have := andK a 31 ze
 simp only [Int.cast_ofNat_Int] at this
 omega
theorem and7 (a : Int) : 0 ≤ bits .and .u32 a 7 := (br32 _ _ _).1
theorem i32ne {b : Int} (h : 0 ≤ b ∧ b < 4294967296) (h0 : ¬ b = 0) : IntKind.i64.wrap (IntKind.i32.wrap b) ≠ 0 := by
 have e : IntKind.i32.wrap b = if 2147483648 ≤ b % 4294967296 then b % 4294967296 - 4294967296 else b % 4294967296 := by simp [IntKind.wrap,IntKind.bits,IntKind.signed]
 rw [e]
 split
 ·rw [IntWalk.i64_in _ j0];omega
 ·rw [IntWalk.i64_in _ j0];omega
theorem form_any (op : Int) (w : World) : Calls Tryz.prog 149 #[.int .i64 op] w fun e w' => (∃ v : Int,e = .returned (.int .i64 v)) ∧ Hp w [] w' := by
 refine enter (args := [_]) (Γ := [(0,_)]) Tryz.func149 Tryz.ntmps149 rfl odq (.cons rfl .nil) ?_
 repeat' first | refine Wl.move rfl rfl ?_ | refine Wl.assign rfl rfl ?_ | (apply Wl.on;exact rfl;exact rfl;exact ka) | (apply Wl.off;exact rfl;exact rfl;exact rfl;exact kq) | refine Wl.offU rfl rfl rfl ?_ | (apply Wl.pickT;exact rfl;exact rfl;exact ka;exact rfl) | (apply Wl.pickF;exact rfl;exact rfl;exact ka;exact rfl) | refine Wl.eql rfl rfl rfl ?_ | refine Wl.leq rfl rfl rfl ?_ | refine Wl.geq rfl rfl rfl ?_ | apply Wl.nil | apply St.seq | apply St.block | apply St.region | (apply St.condT;exact rfl;exact ka) | (apply St.condF;exact rfl;exact ka) | apply St.ret | apply St.skip | apply Gt.next | apply Gt.thenRet | apply Gt.inNormal | apply Gt.inRet | (apply Gt.out1;exact rfl;exact rfl;intro w' hp) | (apply Wl.splitP;exact rfl;exact rfl;all_goals (intros;try (exfalso;omega))) | (apply St.condP;exact rfl;all_goals (intros;try (exfalso;omega)))
 all_goals exact ⟨⟨_,rfl⟩,hp⟩
theorem goes_any (op a b : Int) (w : World) : Calls Tryz.prog 151 #[.int .i64 op,.int .u32 a,.int .u32 b] w fun e w' => (∃ x y : Bool,e = .returned (.tuple #[.bool x,.bool y])) ∧ Hp w [] w' := by
 refine enter (args := [_,_,_]) (Γ := [(0,_),(1,_),(2,_)]) Tryz.func151 Tryz.ntmps151 rfl odq (.cons rfl (.cons rfl (.cons rfl .nil))) ?_
 repeat' first | refine Wl.move rfl rfl ?_ | refine Wl.assign rfl rfl ?_ | refine Wl.eql rfl rfl rfl ?_ | refine Wl.neq rfl rfl rfl ?_ | refine Wl.lss rfl rfl rfl ?_ | refine Wl.geq rfl rfl rfl ?_ | refine Wl.convI rfl rfl ?_ | apply Wl.nil | apply St.seq | apply St.block | apply St.region | apply St.ret | apply St.skip | apply Gt.next | apply Gt.thenRet | apply Gt.inNormal | apply Gt.inRet | (apply Gt.out2;exact rfl;exact rfl;exact rfl;intro w' hp) | (apply St.condP;exact rfl;all_goals (intros;try (exfalso;omega)))
 all_goals exact ⟨⟨_,_,rfl⟩,hp⟩
theorem truth_any (b : Bool) (w : World) : Calls Tryz.prog 193 #[.bool b] w fun e w' => (∃ v : Int,e = .returned (.int .u32 v) ∧ 0 ≤ v ∧ v < 4294967296) ∧ Hp w [] w' := by
 refine enter (args := [_]) (Γ := [(0,_)]) Tryz.func193 Tryz.ntmps193 rfl odq (.cons rfl .nil) ?_
 repeat' first | refine Wl.move rfl rfl ?_ | refine Wl.assign rfl rfl ?_ | apply Wl.nil | apply St.seq | apply St.region | apply St.ret | apply St.skip | apply Gt.next | apply Gt.thenRet | (apply Gt.out1;exact rfl;exact rfl;intro w' hp) | (apply St.condB;exact rfl;all_goals intros)
 all_goals exact ⟨⟨_,rfl,by decide⟩,hp⟩
theorem muls_any (op a b : Int) (w : World) (ha : 0 ≤ a ∧ a < 4294967296) (hb : 0 ≤ b ∧ b < 4294967296) : Calls Tryz.prog 194 #[.int .i64 op,.int .u32 a,.int .u32 b] w fun e w' => (∃ v : Int,∃ y : Bool,e = .returned (.tuple #[.int .u32 v,.bool y]) ∧ 0 ≤ v ∧ v < 4294967296) ∧ Hp w [] w' := by
 refine enter (args := [_,_,_]) (Γ := [(0,_),(1,_),(2,_)]) Tryz.func194 Tryz.ntmps194 rfl odq (.cons rfl (.cons rfl (.cons rfl .nil))) ?_
 repeat' first | (apply Wl.quo;exact rfl;exact rfl;exact rfl;exact j4) | (apply Wl.rem;exact rfl;exact rfl;exact rfl;exact j4) | refine Wl.move rfl rfl ?_ | refine Wl.assign rfl rfl ?_ | refine Wl.eql rfl rfl rfl ?_ | refine Wl.mul rfl rfl rfl ?_ | (refine Wl.shr rfl rfl rfl ?_ ?_;omega) | (refine Wl.convI64 rfl rfl ?_ ?_;constructor <;> omega) | (refine Wl.convU64 rfl rfl ?_ ?_;constructor <;> omega) | refine Wl.convI rfl rfl ?_ | apply Wl.nil | apply St.seq | apply St.block | apply St.region | apply St.ret | apply St.skip | apply Gt.next | apply Gt.thenRet | apply Gt.inNormal | apply Gt.inRet | (apply Gt.out2;exact rfl;exact rfl;exact rfl;intro w' hp) | (apply St.condP;exact rfl;all_goals (intros;try (exfalso;omega)))
 all_goals exact ⟨⟨_,_,rfl,by (first | assumption | exact wr32 _ | exact br32 _ _ _ | exact and31 _ | (constructor <;> omega) | (apply fd32;first | assumption | exact wr32 _ | exact br32 _ _ _) | (apply tm32;first | assumption | exact wr32 _ | exact br32 _ _ _))⟩,hp⟩
theorem reckon_any (op a b : Int) (w : World) (ha : 0 ≤ a ∧ a < 4294967296) (hb : 0 ≤ b ∧ b < 4294967296) : Calls Tryz.prog 154 #[.int .i64 op,.int .u32 a,.int .u32 b] w fun e w' => (∃ v : Int,∃ y : Bool,e = .returned (.tuple #[.int .u32 v,.bool y]) ∧ 0 ≤ v ∧ v < 4294967296) ∧ Hp w [] w' := by
 refine enter (args := [_,_,_]) (Γ := [(0,_),(1,_),(2,_)]) Tryz.func154 Tryz.ntmps154 rfl odq (.cons rfl (.cons rfl (.cons rfl .nil))) ?_
 repeat' first | (apply Wl.shl;exact rfl;exact rfl;exact rfl;exact bits_lo_u32 _ _ _) | (apply Wl.shr;exact rfl;exact rfl;exact rfl;exact bits_lo_u32 _ _ _) | (apply Wl.callC;exact rfl;exact ke;(intro wq hq;refine (truth_any _ wq).mono ?_;rintro e wr ⟨⟨v,rfl,hv⟩,hr⟩;refine ⟨_,_,rfl,hq.keep hr,?_⟩;clear hr hq wr wq)) | (apply Wl.callC;exact rfl;exact ke;(intro wq hq;refine (muls_any op a b wq ha hb).mono ?_;rintro e wr ⟨⟨v,y,rfl,hv⟩,hr⟩;refine ⟨_,_,rfl,hq.keep hr,?_⟩;clear hr hq wr wq)) | refine Wl.move rfl rfl ?_ | refine Wl.assign rfl rfl ?_ | refine Wl.extract rfl rfl rfl ?_ | refine Wl.eql rfl rfl rfl ?_ | refine Wl.lss rfl rfl rfl ?_ | refine Wl.add rfl rfl rfl ?_ | refine Wl.sub' rfl rfl rfl ?_ | refine Wl.and rfl rfl rfl ?_ | refine Wl.or rfl rfl rfl ?_ | refine Wl.xor rfl rfl rfl ?_ | refine Wl.convI rfl rfl ?_ | apply Wl.nil | apply St.seq | apply St.block | apply St.region | (apply St.condT;exact rfl;exact ka) | apply St.ret | apply St.skip | apply Gt.next | apply Gt.thenRet | apply Gt.inNormal | apply Gt.inRet | (apply Gt.out2;exact rfl;exact rfl;exact rfl;intro w' hp) | (apply St.condP;exact rfl;all_goals (intros;try (exfalso;omega)))
 all_goals exact ⟨⟨_,_,rfl,by (first | assumption | exact wr32 _ | exact br32 _ _ _ | exact and31 _ | (constructor <;> omega) | (apply fd32;first | assumption | exact wr32 _ | exact br32 _ _ _) | (apply tm32;first | assumption | exact wr32 _ | exact br32 _ _ _))⟩,hp⟩
def InstR (rd r1 r2 im : Int) : Prop := (0 ≤ rd ∧ rd < 32) ∧ (0 ≤ r1 ∧ r1 < 32) ∧ (0 ≤ r2 ∧ r2 < 32) ∧ (0 ≤ im ∧ im < 4294967296)
theorem instR0 : InstR 0 0 0 0 := by unfold InstR;decide
def isI (v : Value) : Bool := match v with
 | .int .i64 _ => true
 | _ => false
theorem pickF (b : Nat) (f : Int) (cs : List Value) (n cap : Nat) (w : World) (hf : 0 ≤ f) (hn : cs.length = n) (hk : cs.all isI = true) (hb : w.heap[b]? = some (.cells cs.toArray 3 (0,0))) :
  Calls Tryz.prog 162 #[.int .i64 f,.slice (some ⟨b,0,none⟩) n cap] w fun e w' => (∃ r : Int,e = .returned (.int .i64 r)) ∧ Hp w [] w' := by
 subst hn
 refine enter (args := [_,_]) (Γ := [(0,_),(1,_)]) Tryz.func162 Tryz.ntmps162 rfl odq (.cons rfl (.cons rfl .nil)) ?_
 by_cases hlt : f < cs.length
 ·have hl : f.toNat < cs.length := by omega
  obtain ⟨x,hx⟩ : ∃ x,cs[f.toNat] = .int .i64 x := by
   have := List.all_eq_true.1 hk _ (List.getElem_mem hl)
   unfold isI at this
   split at this
   ·exact ⟨_,by assumption⟩
   ·cases this
  have hc : w.cell? ⟨b,0 + f.toNat,none⟩ = some (.int .i64 x) := cell_of hb (by rw [Nat.zero_add,List.getElem?_eq_getElem hl,hx])
  repeat' first | (apply Wl.loadO;exact rfl;exact rfl;exact hc;exact trivial) | refine Wl.move rfl rfl ?_ | refine Wl.assign rfl rfl ?_ | refine Wl.lss rfl rfl rfl ?_ | refine Wl.len rfl rfl ?_ | (refine Wl.indexAddr1 rfl rfl rfl ?_ ?_;constructor <;> omega) | apply Wl.nil | apply St.seq | apply St.region | apply St.ret | apply Gt.next | apply Gt.thenRet | (apply Gt.out1;exact rfl;exact rfl;intro w' hp) | (apply St.condP;exact rfl;all_goals (intros;try (exfalso;omega)))
  exact ⟨⟨_,rfl⟩,hp⟩
 ·repeat' first | refine Wl.move rfl rfl ?_ | refine Wl.assign rfl rfl ?_ | refine Wl.lss rfl rfl rfl ?_ | refine Wl.len rfl rfl ?_ | apply Wl.nil | apply St.seq | apply St.region | apply St.ret | apply St.skip | apply Gt.next | (apply Gt.out1;exact rfl;exact rfl;intro w' hp) | (apply St.condP;exact rfl;all_goals (intros;try (exfalso;omega)))
  exact ⟨⟨_,rfl⟩,hp⟩
theorem ofF (op o rd r1 r2 im : Int) (w : World) (hR : InstR rd r1 r2 im) :
  Calls Tryz.prog 161 #[.int .i64 op,.agg #[.int .i64 o,.int .i64 rd,.int .i64 r1,.int .i64 r2,.int .u32 im]] w fun e w' => (∃ o' rd' r1' r2' im' : Int,e = .returned (.agg #[.int .i64 o',.int .i64 rd',.int .i64 r1',.int .i64 r2',.int .u32 im']) ∧ InstR rd' r1' r2' im') ∧ Hp w [] w' := by
 refine (of_any op o rd r1 r2 im w).mono ?_
 rintro e w' ⟨rfl,h⟩
 split
 ·exact ⟨⟨_,_,_,_,_,rfl,instR0⟩,h⟩
 ·exact ⟨⟨_,_,_,_,_,rfl,hR⟩,h⟩
theorem extend_any (x n : Int) (w : World) (hn : 0 ≤ n ∧ n ≤ 32) : Calls Tryz.prog 198 #[.int .u32 x,.int .i64 n] w fun e w' => (∃ v : Int,e = .returned (.int .u32 v) ∧ 0 ≤ v ∧ v < 4294967296) ∧ Hp w [] w' := by
 refine enter (args := [_,_]) (Γ := [(0,_),(1,_)]) Tryz.func198 Tryz.ntmps198 rfl odq (.cons rfl (.cons rfl .nil)) ?_
 repeat' first | refine Wl.move rfl rfl ?_ | refine Wl.assign rfl rfl ?_ | (refine Wl.subI rfl rfl rfl ?_ ?_;constructor <;> omega) | (refine Wl.shl rfl rfl rfl ?_ ?_;omega) | (refine Wl.shr rfl rfl rfl ?_ ?_;omega) | refine Wl.convI rfl rfl ?_ | apply Wl.nil | apply St.seq | apply St.region | apply St.ret | apply Gt.next | (apply Gt.out1;exact rfl;exact rfl;intro w' hp)
 all_goals exact ⟨⟨_,rfl,by (first | assumption | exact wr32 _ | exact br32 _ _ _ | exact and31 _ | (constructor <;> omega) | (apply fd32;first | assumption | exact wr32 _ | exact br32 _ _ _))⟩,hp⟩
theorem ImmI_any (x : Int) (w : World) : Calls Tryz.prog 160 #[.int .u32 x] w fun e w' => (∃ v : Int,e = .returned (.int .u32 v) ∧ 0 ≤ v ∧ v < 4294967296) ∧ Hp w [] w' := by
 refine enter (args := [_]) (Γ := [(0,_)]) Tryz.func160 Tryz.ntmps160 rfl odq (.cons rfl .nil) ?_
 repeat' first | refine Wl.move rfl rfl ?_ | refine Wl.assign rfl rfl ?_ | (refine Wl.shr rfl rfl rfl ?_ ?_;omega) | apply Wl.nil | apply St.seq | apply St.region | apply Gt.next
 apply Wl.callC
 ·exact rfl
 ·exact ke
 intro wq hq
 refine (extend_any _ _ wq ze).mono ?_
 rintro e wr ⟨⟨v,rfl,hv⟩,hr⟩
 refine ⟨_,_,rfl,hq.keep hr,?_⟩
 repeat' first | refine Wl.assign rfl rfl ?_ | apply Wl.nil | apply St.ret | apply Gt.next | (apply Gt.out1;exact rfl;exact rfl;intro w' hp)
 exact ⟨⟨_,rfl,hv⟩,hp⟩
theorem ImmS_any (x : Int) (w : World) : Calls Tryz.prog 199 #[.int .u32 x] w fun e w' => (∃ v : Int,e = .returned (.int .u32 v) ∧ 0 ≤ v ∧ v < 4294967296) ∧ Hp w [] w' := by
 refine enter (args := [_]) (Γ := [(0,_)]) Tryz.func199 Tryz.ntmps199 rfl odq (.cons rfl .nil) ?_
 repeat' first | refine Wl.move rfl rfl ?_ | refine Wl.assign rfl rfl ?_ | refine Wl.and rfl rfl rfl ?_ | refine Wl.or rfl rfl rfl ?_ | (refine Wl.shl rfl rfl rfl ?_ ?_;omega) | (refine Wl.shr rfl rfl rfl ?_ ?_;omega) | apply Wl.nil | apply St.seq | apply St.region | apply Gt.next
 apply Wl.callC
 ·exact rfl
 ·exact ke
 intro wq hq
 refine (extend_any _ _ wq ze).mono ?_
 rintro e wr ⟨⟨v,rfl,hv⟩,hr⟩
 refine ⟨_,_,rfl,hq.keep hr,?_⟩
 repeat' first | refine Wl.assign rfl rfl ?_ | apply Wl.nil | apply St.ret | apply Gt.next | (apply Gt.out1;exact rfl;exact rfl;intro w' hp)
 exact ⟨⟨_,rfl,hv⟩,hp⟩
theorem ImmB_any (x : Int) (w : World) : Calls Tryz.prog 163 #[.int .u32 x] w fun e w' => (∃ v : Int,e = .returned (.int .u32 v) ∧ 0 ≤ v ∧ v < 4294967296) ∧ Hp w [] w' := by
 refine enter (args := [_]) (Γ := [(0,_)]) Tryz.func163 Tryz.ntmps163 rfl odq (.cons rfl .nil) ?_
 repeat' first | refine Wl.move rfl rfl ?_ | refine Wl.assign rfl rfl ?_ | refine Wl.and rfl rfl rfl ?_ | refine Wl.or rfl rfl rfl ?_ | (refine Wl.shl rfl rfl rfl ?_ ?_;omega) | (refine Wl.shr rfl rfl rfl ?_ ?_;omega) | apply Wl.nil | apply St.seq | apply St.region | apply Gt.next
 apply Wl.callC
 ·exact rfl
 ·exact ke
 intro wq hq
 refine (extend_any _ _ wq ze).mono ?_
 rintro e wr ⟨⟨v,rfl,hv⟩,hr⟩
 refine ⟨_,_,rfl,hq.keep hr,?_⟩
 repeat' first | refine Wl.assign rfl rfl ?_ | apply Wl.nil | apply St.ret | apply Gt.next | (apply Gt.out1;exact rfl;exact rfl;intro w' hp)
 exact ⟨⟨_,rfl,hv⟩,hp⟩
theorem ImmJ_any (x : Int) (w : World) : Calls Tryz.prog 159 #[.int .u32 x] w fun e w' => (∃ v : Int,e = .returned (.int .u32 v) ∧ 0 ≤ v ∧ v < 4294967296) ∧ Hp w [] w' := by
 refine enter (args := [_]) (Γ := [(0,_)]) Tryz.func159 Tryz.ntmps159 rfl odq (.cons rfl .nil) ?_
 repeat' first | refine Wl.move rfl rfl ?_ | refine Wl.assign rfl rfl ?_ | refine Wl.and rfl rfl rfl ?_ | refine Wl.or rfl rfl rfl ?_ | (refine Wl.shl rfl rfl rfl ?_ ?_;omega) | (refine Wl.shr rfl rfl rfl ?_ ?_;omega) | apply Wl.nil | apply St.seq | apply St.region | apply Gt.next
 apply Wl.callC
 ·exact rfl
 ·exact ke
 intro wq hq
 refine (extend_any _ _ wq ze).mono ?_
 rintro e wr ⟨⟨v,rfl,hv⟩,hr⟩
 refine ⟨_,_,rfl,hq.keep hr,?_⟩
 repeat' first | refine Wl.assign rfl rfl ?_ | apply Wl.nil | apply St.ret | apply Gt.next | (apply Gt.out1;exact rfl;exact rfl;intro w' hp)
 exact ⟨⟨_,rfl,hv⟩,hp⟩
theorem ImmU_any (x : Int) (w : World) : Calls Tryz.prog 197 #[.int .u32 x] w fun e w' => (∃ v : Int,e = .returned (.int .u32 v) ∧ 0 ≤ v ∧ v < 4294967296) ∧ Hp w [] w' := by
 refine enter (args := [_]) (Γ := [(0,_)]) Tryz.func197 Tryz.ntmps197 rfl odq (.cons rfl .nil) ?_
 repeat' first | refine Wl.move rfl rfl ?_ | refine Wl.assign rfl rfl ?_ | refine Wl.andNot rfl rfl rfl ?_ | apply Wl.nil | apply St.seq | apply St.region | apply St.ret | apply Gt.next | (apply Gt.out1;exact rfl;exact rfl;intro w' hp)
 exact ⟨⟨_,rfl,by (first | assumption | exact wr32 _ | exact br32 _ _ _ | exact and31 _ | (constructor <;> omega) | (apply fd32;first | assumption | exact wr32 _ | exact br32 _ _ _))⟩,hp⟩
theorem _root_.Go.Pt.Wl.andIs {P : Program} {md : Md} {ops : Array Oper} {N : Nat} {rest : List Oper} {Γ : Env} {C : World → Prop} {Q : Exit → Act → World → Prop} {d : Nat} {ty : TypeId} {pos : String} {af : Array Edge} {t u : TypeId} {x y : Operand} {k : IntKind} {m n z : Int}
  (hd : Nat.blt d N = true) (hx : ev Γ x = some (.int k m)) (hy : ev Γ y = some (.int k n)) (hz : bits .and k m n = z) (h : Wl rest P md ops N ((d,.int k z) :: Γ) C Q) : Wl (⟨some d,.binOp .and t x y u,ty,pos,af,none⟩ :: rest) P md ops N Γ C Q := by
 subst hz
 exact Wl.and hd hx hy h
theorem u_any (op o rd r1 r2 im x : Int) (w : World) (hR : InstR rd r1 r2 im) : Calls Tryz.prog 158 #[.int .i64 op,.agg #[.int .i64 o,.int .i64 rd,.int .i64 r1,.int .i64 r2,.int .u32 im],.int .u32 x] w fun e w' => (∃ o' rd' r1' r2' im' : Int,e = .returned (.agg #[.int .i64 o',.int .i64 rd',.int .i64 r1',.int .i64 r2',.int .u32 im']) ∧ InstR rd' r1' r2' im') ∧ Hp w [] w' := by
 obtain ⟨k1,k2,k3,k4⟩ := id hR
 refine enter (args := [_,_,_]) (Γ := [(0,_),(1,_),(2,_)]) Tryz.func158 Tryz.ntmps158 rfl odq (.cons rfl (.cons rfl (.cons rfl .nil))) ?_
 repeat' first | (apply Wl.boxA;exact rfl;exact rfl;intro c hc ho) | (apply Wl.alloc;exact rfl;intro c hc ho) | apply Wl.nil | apply St.seq | apply St.region | apply Gt.next
 rename_i cX hcX hoX
 refine St.tree (fun w' => Own w' [⟨cX,[Value.int .i64 o,.int .i64 rd,.int .i64 r1,.int .i64 r2,.int .u32 im],221⟩]) mixed (fun _ h => ⟨Hp.drew h,⟨own_at (Hp.drew h).own kw,trivial⟩⟩) ?_
 refine Mt.pm 0 ?_
 refine Mt.pz 1 ?_
 refine Mt.pu 2 ?_
 apply Wl.loadF;exact rfl;exact rfl;(intro w' h';first | exact cell_of h'.1 rfl);apply Wl.nilB
 refine Mt.pm 3 ?_
 refine Mt.e1 4 ?_
 repeat' first | (apply Wl.callC (f := 197);exact rfl;exact ke;(intro wq hq;refine (ImmU_any _ wq).mono ?_;rintro e wr ⟨⟨im_,rfl,him_⟩,hr⟩;refine ⟨_,_,rfl,hq.keep hr,?_⟩;clear hr hq wr wq)) | apply Wl.nil
 refine Mt.backE (fun _ h => ⟨own_at h.own kw,trivial⟩) ?_
 refine Mt.pu 5 ?_
 apply Wl.buildS;exact rfl;exact ki;exact kc;apply Wl.nilB
 refine Mt.e1 6 ?_
 repeat' first | (apply Wl.storeA;exact rfl;exact rfl;exact rfl;exact rfl;exact ke;exact kf) | apply Wl.nil
 refine Mt.backE (fun _ h => ⟨own_at h.own kw,trivial⟩) ?_
 refine Mt.toGt kg ?_
 repeat' first | (apply Gt.outC';exact rfl;infer_instance;exact rfl;exact ke;exact ke;intro w' hp) | apply St.ret | apply Gt.next
 exact ⟨⟨_,_,_,_,_,rfl,kt⟩,hp.drop zx⟩
theorem sys_any (x o rd r1 r2 im f : Int) (w : World) (hx : 0 ≤ x ∧ x < 4294967296) (hf : 0 ≤ f) (hR : InstR rd r1 r2 im) : Calls Tryz.prog 200 #[.int .u32 x,.agg #[.int .i64 o,.int .i64 rd,.int .i64 r1,.int .i64 r2,.int .u32 im],.int .i64 f] w fun e w' => (∃ o' rd' r1' r2' im' : Int,e = .returned (.agg #[.int .i64 o',.int .i64 rd',.int .i64 r1',.int .i64 r2',.int .u32 im']) ∧ InstR rd' r1' r2' im') ∧ Hp w [] w' := by
 obtain ⟨k1,k2,k3,k4⟩ := id hR
 refine enter (args := [_,_,_]) (Γ := [(0,_),(1,_),(2,_)]) Tryz.func200 Tryz.ntmps200 rfl odq (.cons rfl (.cons rfl (.cons rfl .nil))) ?_
 apply St.seq
 apply St.region
 apply Wl.boxA
 ·exact rfl
 ·exact rfl
 intro cX hcX hoX
 repeat' first | (apply Gt.outC';exact rfl;infer_instance;exact rfl;exact ke;exact ke;intro w' hp) | refine Wl.move rfl rfl ?_ | refine Wl.assign rfl rfl ?_ | refine Wl.eql rfl rfl rfl ?_ | (apply Wl.storeA;exact rfl;exact rfl;exact rfl;exact rfl;exact ke;exact kf) | (apply Wl.buildS;exact rfl;exact ki;exact kc) | (apply Wl.alloc;exact rfl;intro c hc ho) | apply Wl.nil | apply St.seq | apply St.block | apply St.region | apply St.ret | apply St.skip | apply Gt.next | apply Gt.thenRet | apply Gt.inNormal | apply Gt.inRet | (apply St.condP;exact rfl;all_goals (intros;try (exfalso;omega)))
 all_goals first
  | exact ⟨⟨_,_,_,_,_,rfl,kt⟩,hp.drop zx⟩
  | skip
 refine St.tree (fun w' => Own w' [⟨cX,[Value.int .i64 o,.int .i64 rd,.int .i64 r1,.int .i64 r2,.int .u32 im],221⟩]) mixed (fun _ h => ⟨Hp.drew h,⟨own_at (Hp.drew h).own kw,trivial⟩⟩) ?_
 refine Mt.pm 0 ?_
 refine Mt.pz 3 ?_
 refine Mt.pu 4 ?_
 apply Wl.loadF;exact rfl;exact rfl;(intro w' h';first | exact cell_of h'.1 rfl);apply Wl.nilB
 refine Mt.pz 5 ?_
 refine Mt.pu 6 ?_
 apply Wl.loadF;exact rfl;exact rfl;(intro w' h';first | exact cell_of h'.1 rfl);apply Wl.nilB
 refine Mt.pm 7 ?_
 refine Mt.pu 8 ?_
 refine Wl.shr rfl rfl rfl ?_ ?_;omega;apply Wl.nilB
 refine Mt.pu 9 ?_
 apply Wl.buildS;exact rfl;exact ki;exact kc;apply Wl.nilB
 refine Mt.e1 1 ?_
 repeat' first | (apply Wl.lit;exact rfl;exact ki;exact rfl;exact rfl;exact kj;intro d_ hd_ hod_) | apply Wl.nil
 refine Mt.backE (fun _ h => ⟨own_at h.own kw,trivial⟩) ?_
 refine Mt.e1 2 ?_
 repeat' first | (apply Wl.callC (f := 162);exact rfl;exact ke;(intro wq hq;have hb_ := own_at hq.own (.head _);refine (pickF _ _ _ _ _ wq ky rfl rfl hb_).mono ?_;rintro e wr ⟨⟨op_,rfl⟩,hr⟩;refine ⟨_,_,rfl,hq.keep hr,?_⟩;clear hr hb_ hq wr wq)) | apply Wl.nil
 refine Mt.backE (fun _ h => ⟨own_at h.own kw,trivial⟩) ?_
 refine Mt.e1 10 ?_
 repeat' first | (apply Wl.callC (f := 161);exact rfl;exact ke;(intro wq hq;refine (ofF _ _ _ _ _ _ wq kt).mono ?_;rintro e wr ⟨⟨o1_,o2_,o3_,o4_,o5_,rfl,hoR_⟩,hr⟩;refine ⟨_,_,rfl,hq.keep hr,?_⟩;clear hr hq wr wq)) | apply Wl.nil
 refine Mt.backE (fun _ h => ⟨own_at h.own kw,trivial⟩) ?_
 refine Mt.e1 11 ?_
 repeat' first | (apply Wl.storeA;exact rfl;exact rfl;exact rfl;exact rfl;exact ke;exact kf) | apply Wl.nil
 refine Mt.backE (fun _ h => ⟨own_at h.own kw,trivial⟩) ?_
 refine Mt.toGt kg ?_
 repeat' first | (apply Gt.outC';exact rfl;infer_instance;exact rfl;exact ke;exact ke;intro w' hp) | apply St.ret | apply Gt.next
 exact ⟨⟨_,_,_,_,_,rfl,kt⟩,hp.drop zx⟩
theorem more_any (x o rd r1 r2 im f top : Int) (w : World) (hx : 0 ≤ x ∧ x < 4294967296) (hf : 0 ≤ f) (hR : InstR rd r1 r2 im) : Calls Tryz.prog 164 #[.int .u32 x,.agg #[.int .i64 o,.int .i64 rd,.int .i64 r1,.int .i64 r2,.int .u32 im],.int .i64 f,.int .u32 top] w fun e w' => (∃ o' rd' r1' r2' im' : Int,e = .returned (.agg #[.int .i64 o',.int .i64 rd',.int .i64 r1',.int .i64 r2',.int .u32 im']) ∧ InstR rd' r1' r2' im') ∧ Hp w [] w' := by
 obtain ⟨k1,k2,k3,k4⟩ := id hR
 refine enter (args := [_,_,_,_]) (Γ := [(0,_),(1,_),(2,_),(3,_)]) Tryz.func164 Tryz.ntmps164 rfl odq (.cons rfl (.cons rfl (.cons rfl (.cons rfl .nil)))) ?_
 apply St.seq
 apply St.region
 apply Wl.boxA
 ·exact rfl
 ·exact rfl
 intro cX hcX hoX
 repeat' first | (apply Wl.alloc;exact rfl;intro c hc ho) | apply Wl.nil | apply St.seq | apply Gt.next
 refine St.tree (fun w' => Own w' [⟨cX,[Value.int .i64 o,.int .i64 rd,.int .i64 r1,.int .i64 r2,.int .u32 im],221⟩]) mixed (fun _ h => ⟨Hp.drew h,⟨own_at (Hp.drew h).own kw,trivial⟩⟩) ?_
 refine Mt.pz 0 ?_
 refine Mt.pu 1 ?_
 apply Wl.loadF;exact rfl;exact rfl;(intro w' h';first | exact cell_of h'.1 rfl);apply Wl.nilB
 refine Mt.pz 2 ?_
 refine Mt.pu 3 ?_
 apply Wl.loadF;exact rfl;exact rfl;(intro w' h';first | exact cell_of h'.1 rfl);apply Wl.nilB
 refine Mt.pm 4 ?_
 refine Mt.eff2 (i := 5) (j := 7) kg zd zd ?_ ?_
 ·repeat' first | (apply Wl.callC (f := 160);exact rfl;exact ke;(intro wq hq;refine (ImmI_any _ wq).mono ?_;rintro e wr ⟨⟨imI,rfl,himI⟩,hr⟩;refine ⟨_,_,rfl,hq.keep hr,?_⟩;clear hr hq wr wq)) | apply Wl.nil
  refine Mt.backE (fun _ h => ⟨own_at h.own kw,trivial⟩) ?_
  refine Mt.pu 6 ?_
  apply Wl.buildS;exact rfl;exact ki;exact kc;apply Wl.nilB
  refine Mt.e1 7 ?_
  apply Wl.alloc
  ·exact rfl
  intro c9 hc9 ho9
  apply Wl.nil
  refine Mt.backE (fun _ h => ⟨own_at h.own kw,trivial⟩) ?_
  refine Mt.e1 8 ?_
  repeat' first | (apply Wl.storeA;exact rfl;exact rfl;exact rfl;exact rfl;exact ke;exact kf) | apply Wl.nil
  refine Mt.backE (fun _ h => ⟨own_at h.own kw,trivial⟩) ?_
  refine Mt.toGt kg ?_
  repeat' first | (apply Gt.outC';exact rfl;infer_instance;exact rfl;exact ke;exact ke;intro w' hp) | (apply Wl.callC (f := 161);exact rfl;exact ke;(intro wq hq;refine (ofF _ _ _ _ _ _ wq kt).mono ?_;rintro e wr ⟨⟨o1_,o2_,o3_,o4_,o5_,rfl,hoR_⟩,hr⟩;refine ⟨_,_,rfl,hq.keep hr,?_⟩;clear hr hq wr wq)) | (apply Wl.callC (f := 200);exact rfl;exact ke;(intro wq hq;refine (sys_any _ _ _ _ _ _ _ wq hx hf hR).mono ?_;rintro e wr ⟨⟨o1_,o2_,o3_,o4_,o5_,rfl,hoR_⟩,hr⟩;refine ⟨_,_,rfl,hq.keep hr,?_⟩;clear hr hq wr wq)) | refine Wl.move rfl rfl ?_ | refine Wl.assign rfl rfl ?_ | (apply Wl.on;exact rfl;exact rfl;exact ka) | (apply Wl.off;exact rfl;exact rfl;exact rfl;exact kq) | (apply Wl.pickT;exact rfl;exact rfl;exact ka;exact rfl) | (apply Wl.pickF;exact rfl;exact rfl;exact ka;exact rfl) | refine Wl.fieldAddrZ rfl rfl ?_ | (apply Wl.loadH;exact rfl;exact rfl;exact ke;exact rfl) | (apply Wl.eqlIs;exact rfl;exact rfl;exact rfl;exact kv) | refine Wl.eql rfl rfl rfl ?_ | refine Wl.and rfl rfl rfl ?_ | (refine Wl.convU32 rfl rfl ?_ ?_;constructor <;> omega) | (apply Wl.storeA;exact rfl;exact rfl;exact rfl;exact rfl;exact ke;exact kf) | (apply Wl.loadAH;exact rfl;exact rfl;exact ke;exact ke) | (apply Wl.buildS;exact rfl;exact ki;exact kc) | (apply Wl.alloc;exact rfl;intro c hc ho) | apply Wl.nil | apply St.seq | apply St.block | apply St.region | (apply St.condF;exact rfl;exact ka) | apply St.ret | apply St.skip | apply Gt.next | apply Gt.thenRet | apply Gt.inNormal | apply Gt.inRet | (apply Wl.splitP;exact rfl;exact rfl;all_goals (intros;try (exfalso;omega))) | (apply St.condP;exact rfl;all_goals (intros;try (exfalso;omega)))
  all_goals first
   | exact ⟨⟨_,_,_,_,_,rfl,kt⟩,hp.drop zx⟩
   | skip
  all_goals first
   | (refine St.tree (fun w' => Own w' [⟨c9,[Value.int .i64 0,.int .i64 rd,.int .i64 r1,.int .i64 0,.int .u32 imI],221⟩,⟨cX,[Value.int .i64 o,.int .i64 rd,.int .i64 r1,.int .i64 r2,.int .u32 im],221⟩]) mixed (fun _ h => ⟨Hp.drew h,⟨own_at (Hp.drew h).own kw,own_at (Hp.drew h).own kw,trivial⟩⟩) ?_
      refine Mt.pm 0 ?_
      refine Mt.pu 3 ?_
      repeat' first | (apply Wl.loadAF (xs := [Value.int .i64 0,.int .i64 rd,.int .i64 r1,.int .i64 0,.int .u32 imI]);exact rfl;exact rfl;exact rfl;(intro w' h';exact agg_of h'.1)) | (apply Wl.loadAF (xs := [Value.int .i64 o,.int .i64 rd,.int .i64 r1,.int .i64 r2,.int .u32 im]);exact rfl;exact rfl;exact rfl;(intro w' h';exact agg_of h'.2.1)) | refine Wl.fieldAddrZ rfl rfl ?_ | apply Wl.nilB
      refine Mt.e1 1 ?_
      repeat' first | (apply Wl.lit;exact rfl;exact ki;exact rfl;exact rfl;exact kj;intro d_ hd_ hod_) | apply Wl.nil
      refine Mt.backE (fun _ h => ⟨own_at h.own kw,own_at h.own kw,trivial⟩) ?_
      refine Mt.e1 2 ?_
      repeat' first | (apply Wl.callC (f := 162);exact rfl;exact ke;(intro wq hq;have hb_ := own_at hq.own (.head _);refine (pickF _ _ _ _ _ wq ky rfl rfl hb_).mono ?_;rintro e wr ⟨⟨op_,rfl⟩,hr⟩;refine ⟨_,_,rfl,hq.keep hr,?_⟩;clear hr hb_ hq wr wq)) | apply Wl.nil
      refine Mt.backE (fun _ h => ⟨own_at h.own kw,own_at h.own kw,trivial⟩) ?_
      refine Mt.e1 4 ?_
      repeat' first | (apply Wl.callC (f := 161);exact rfl;exact ke;(intro wq hq;refine (ofF _ _ _ _ _ _ wq kt).mono ?_;rintro e wr ⟨⟨o1_,o2_,o3_,o4_,o5_,rfl,hoR_⟩,hr⟩;refine ⟨_,_,rfl,hq.keep hr,?_⟩;clear hr hq wr wq)) | apply Wl.nil
      refine Mt.backE (fun _ h => ⟨own_at h.own kw,own_at h.own kw,trivial⟩) ?_
      refine Mt.e1 5 ?_
      repeat' first | (apply Wl.storeA;exact rfl;exact rfl;exact rfl;exact rfl;exact ke;exact kf) | apply Wl.nil
      refine Mt.backE (fun _ h => ⟨own_at h.own kw,own_at h.own kw,trivial⟩) ?_
      refine Mt.toGt kg ?_
      repeat' first | (apply Gt.outC';exact rfl;infer_instance;exact rfl;exact ke;exact ke;intro w' hp) | apply St.ret | apply Gt.next | apply Gt.thenRet | apply Gt.inRet
      exact ⟨⟨_,_,_,_,_,rfl,kt⟩,hp.drop zx⟩)
   | (refine St.tree (fun w' => Own w' [⟨c9,[Value.int .i64 0,.int .i64 rd,.int .i64 r1,.int .i64 0,.int .u32 imI],221⟩,⟨cX,[Value.int .i64 o,.int .i64 rd,.int .i64 r1,.int .i64 r2,.int .u32 im],221⟩]) mixed (fun _ h => ⟨Hp.drew h,⟨own_at (Hp.drew h).own kw,own_at (Hp.drew h).own kw,trivial⟩⟩) ?_
      refine Mt.pm 0 ?_
      refine Mt.pz 3 ?_
      refine Mt.pu 4 ?_
      apply Wl.loadF;exact rfl;exact rfl;(intro w' h';first | exact cell_of h'.1 rfl | exact cell_of h'.2.1 rfl);apply Wl.nilB
      refine Mt.pz 5 ?_
      refine Mt.pu 6 ?_
      apply Wl.loadF;exact rfl;exact rfl;(intro w' h';first | exact cell_of h'.1 rfl | exact cell_of h'.2.1 rfl);apply Wl.nilB
      refine Mt.pm 7 ?_
      refine Mt.e1 1 ?_
      repeat' first | (apply Wl.lit;exact rfl;exact ki;exact rfl;exact rfl;exact kj;intro d_ hd_ hod_) | apply Wl.nil
      refine Mt.backE (fun _ h => ⟨own_at h.own kw,own_at h.own kw,trivial⟩) ?_
      refine Mt.e1 2 ?_
      repeat' first | (apply Wl.callC (f := 162);exact rfl;exact ke;(intro wq hq;have hb_ := own_at hq.own (.head _);refine (pickF _ _ _ _ _ wq ky rfl rfl hb_).mono ?_;rintro e wr ⟨⟨op_,rfl⟩,hr⟩;refine ⟨_,_,rfl,hq.keep hr,?_⟩;clear hr hb_ hq wr wq)) | apply Wl.nil
      refine Mt.backE (fun _ h => ⟨own_at h.own kw,own_at h.own kw,trivial⟩) ?_
      refine Mt.e1 8 ?_
      repeat' first | (apply Wl.callC (f := 199);exact rfl;exact ke;(intro wq hq;refine (ImmS_any _ wq).mono ?_;rintro e wr ⟨⟨im_,rfl,him_⟩,hr⟩;refine ⟨_,_,rfl,hq.keep hr,?_⟩;clear hr hq wr wq)) | apply Wl.nil
      refine Mt.backE (fun _ h => ⟨own_at h.own kw,own_at h.own kw,trivial⟩) ?_
      refine Mt.pu 9 ?_
      apply Wl.buildS;exact rfl;exact ki;exact kc;apply Wl.nilB
      refine Mt.e1 10 ?_
      repeat' first | (apply Wl.callC (f := 161);exact rfl;exact ke;(intro wq hq;refine (ofF _ _ _ _ _ _ wq kt).mono ?_;rintro e wr ⟨⟨o1_,o2_,o3_,o4_,o5_,rfl,hoR_⟩,hr⟩;refine ⟨_,_,rfl,hq.keep hr,?_⟩;clear hr hq wr wq)) | apply Wl.nil
      refine Mt.backE (fun _ h => ⟨own_at h.own kw,own_at h.own kw,trivial⟩) ?_
      refine Mt.e1 11 ?_
      repeat' first | (apply Wl.storeA;exact rfl;exact rfl;exact rfl;exact rfl;exact ke;exact kf) | apply Wl.nil
      refine Mt.backE (fun _ h => ⟨own_at h.own kw,own_at h.own kw,trivial⟩) ?_
      refine Mt.toGt kg ?_
      repeat' first | (apply Gt.outC';exact rfl;infer_instance;exact rfl;exact ke;exact ke;intro w' hp) | apply St.ret | apply Gt.next | apply Gt.thenRet | apply Gt.inRet
      exact ⟨⟨_,_,_,_,_,rfl,kt⟩,hp.drop zx⟩)
 ·apply Wl.alloc
  ·exact rfl
  intro c9 hc9 ho9
  apply Wl.nil
  refine Mt.backE (fun _ h => ⟨own_at h.own kw,trivial⟩) ?_
  refine Mt.e1 5 ?_
  repeat' first | (apply Wl.callC (f := 160);exact rfl;exact ke;(intro wq hq;refine (ImmI_any _ wq).mono ?_;rintro e wr ⟨⟨imI,rfl,himI⟩,hr⟩;refine ⟨_,_,rfl,hq.keep hr,?_⟩;clear hr hq wr wq)) | apply Wl.nil
  refine Mt.backE (fun _ h => ⟨own_at h.own kw,trivial⟩) ?_
  refine Mt.pu 6 ?_
  apply Wl.buildS;exact rfl;exact ki;exact kc;apply Wl.nilB
  refine Mt.e1 8 ?_
  repeat' first | (apply Wl.storeA;exact rfl;exact rfl;exact rfl;exact rfl;exact ke;exact kf) | apply Wl.nil
  refine Mt.backE (fun _ h => ⟨own_at h.own kw,trivial⟩) ?_
  refine Mt.toGt kg ?_
  repeat' first | (apply Gt.outC';exact rfl;infer_instance;exact rfl;exact ke;exact ke;intro w' hp) | (apply Wl.callC (f := 161);exact rfl;exact ke;(intro wq hq;refine (ofF _ _ _ _ _ _ wq kt).mono ?_;rintro e wr ⟨⟨o1_,o2_,o3_,o4_,o5_,rfl,hoR_⟩,hr⟩;refine ⟨_,_,rfl,hq.keep hr,?_⟩;clear hr hq wr wq)) | (apply Wl.callC (f := 200);exact rfl;exact ke;(intro wq hq;refine (sys_any _ _ _ _ _ _ _ wq hx hf hR).mono ?_;rintro e wr ⟨⟨o1_,o2_,o3_,o4_,o5_,rfl,hoR_⟩,hr⟩;refine ⟨_,_,rfl,hq.keep hr,?_⟩;clear hr hq wr wq)) | refine Wl.move rfl rfl ?_ | refine Wl.assign rfl rfl ?_ | (apply Wl.on;exact rfl;exact rfl;exact ka) | (apply Wl.off;exact rfl;exact rfl;exact rfl;exact kq) | (apply Wl.pickT;exact rfl;exact rfl;exact ka;exact rfl) | (apply Wl.pickF;exact rfl;exact rfl;exact ka;exact rfl) | refine Wl.fieldAddrZ rfl rfl ?_ | (apply Wl.loadH;exact rfl;exact rfl;exact ke;exact rfl) | (apply Wl.eqlIs;exact rfl;exact rfl;exact rfl;exact kv) | refine Wl.eql rfl rfl rfl ?_ | refine Wl.and rfl rfl rfl ?_ | (refine Wl.convU32 rfl rfl ?_ ?_;constructor <;> omega) | (apply Wl.storeA;exact rfl;exact rfl;exact rfl;exact rfl;exact ke;exact kf) | (apply Wl.loadAH;exact rfl;exact rfl;exact ke;exact ke) | (apply Wl.buildS;exact rfl;exact ki;exact kc) | (apply Wl.alloc;exact rfl;intro c hc ho) | apply Wl.nil | apply St.seq | apply St.block | apply St.region | (apply St.condF;exact rfl;exact ka) | apply St.ret | apply St.skip | apply Gt.next | apply Gt.thenRet | apply Gt.inNormal | apply Gt.inRet | (apply Wl.splitP;exact rfl;exact rfl;all_goals (intros;try (exfalso;omega))) | (apply St.condP;exact rfl;all_goals (intros;try (exfalso;omega)))
  all_goals first
   | exact ⟨⟨_,_,_,_,_,rfl,kt⟩,hp.drop zx⟩
   | skip
  all_goals first
   | (refine St.tree (fun w' => Own w' [⟨c9,[Value.int .i64 0,.int .i64 rd,.int .i64 r1,.int .i64 0,.int .u32 imI],221⟩,⟨cX,[Value.int .i64 o,.int .i64 rd,.int .i64 r1,.int .i64 r2,.int .u32 im],221⟩]) mixed (fun _ h => ⟨Hp.drew h,⟨own_at (Hp.drew h).own kw,own_at (Hp.drew h).own kw,trivial⟩⟩) ?_
      refine Mt.pm 0 ?_
      refine Mt.pu 3 ?_
      repeat' first | (apply Wl.loadAF (xs := [Value.int .i64 0,.int .i64 rd,.int .i64 r1,.int .i64 0,.int .u32 imI]);exact rfl;exact rfl;exact rfl;(intro w' h';exact agg_of h'.1)) | (apply Wl.loadAF (xs := [Value.int .i64 o,.int .i64 rd,.int .i64 r1,.int .i64 r2,.int .u32 im]);exact rfl;exact rfl;exact rfl;(intro w' h';exact agg_of h'.2.1)) | refine Wl.fieldAddrZ rfl rfl ?_ | apply Wl.nilB
      refine Mt.e1 1 ?_
      repeat' first | (apply Wl.lit;exact rfl;exact ki;exact rfl;exact rfl;exact kj;intro d_ hd_ hod_) | apply Wl.nil
      refine Mt.backE (fun _ h => ⟨own_at h.own kw,own_at h.own kw,trivial⟩) ?_
      refine Mt.e1 2 ?_
      repeat' first | (apply Wl.callC (f := 162);exact rfl;exact ke;(intro wq hq;have hb_ := own_at hq.own (.head _);refine (pickF _ _ _ _ _ wq ky rfl rfl hb_).mono ?_;rintro e wr ⟨⟨op_,rfl⟩,hr⟩;refine ⟨_,_,rfl,hq.keep hr,?_⟩;clear hr hb_ hq wr wq)) | apply Wl.nil
      refine Mt.backE (fun _ h => ⟨own_at h.own kw,own_at h.own kw,trivial⟩) ?_
      refine Mt.e1 4 ?_
      repeat' first | (apply Wl.callC (f := 161);exact rfl;exact ke;(intro wq hq;refine (ofF _ _ _ _ _ _ wq kt).mono ?_;rintro e wr ⟨⟨o1_,o2_,o3_,o4_,o5_,rfl,hoR_⟩,hr⟩;refine ⟨_,_,rfl,hq.keep hr,?_⟩;clear hr hq wr wq)) | apply Wl.nil
      refine Mt.backE (fun _ h => ⟨own_at h.own kw,own_at h.own kw,trivial⟩) ?_
      refine Mt.e1 5 ?_
      repeat' first | (apply Wl.storeA;exact rfl;exact rfl;exact rfl;exact rfl;exact ke;exact kf) | apply Wl.nil
      refine Mt.backE (fun _ h => ⟨own_at h.own kw,own_at h.own kw,trivial⟩) ?_
      refine Mt.toGt kg ?_
      repeat' first | (apply Gt.outC';exact rfl;infer_instance;exact rfl;exact ke;exact ke;intro w' hp) | apply St.ret | apply Gt.next | apply Gt.thenRet | apply Gt.inRet
      exact ⟨⟨_,_,_,_,_,rfl,kt⟩,hp.drop zx⟩)
   | (refine St.tree (fun w' => Own w' [⟨c9,[Value.int .i64 0,.int .i64 rd,.int .i64 r1,.int .i64 0,.int .u32 imI],221⟩,⟨cX,[Value.int .i64 o,.int .i64 rd,.int .i64 r1,.int .i64 r2,.int .u32 im],221⟩]) mixed (fun _ h => ⟨Hp.drew h,⟨own_at (Hp.drew h).own kw,own_at (Hp.drew h).own kw,trivial⟩⟩) ?_
      refine Mt.pm 0 ?_
      refine Mt.pz 3 ?_
      refine Mt.pu 4 ?_
      apply Wl.loadF;exact rfl;exact rfl;(intro w' h';first | exact cell_of h'.1 rfl | exact cell_of h'.2.1 rfl);apply Wl.nilB
      refine Mt.pz 5 ?_
      refine Mt.pu 6 ?_
      apply Wl.loadF;exact rfl;exact rfl;(intro w' h';first | exact cell_of h'.1 rfl | exact cell_of h'.2.1 rfl);apply Wl.nilB
      refine Mt.pm 7 ?_
      refine Mt.e1 1 ?_
      repeat' first | (apply Wl.lit;exact rfl;exact ki;exact rfl;exact rfl;exact kj;intro d_ hd_ hod_) | apply Wl.nil
      refine Mt.backE (fun _ h => ⟨own_at h.own kw,own_at h.own kw,trivial⟩) ?_
      refine Mt.e1 2 ?_
      repeat' first | (apply Wl.callC (f := 162);exact rfl;exact ke;(intro wq hq;have hb_ := own_at hq.own (.head _);refine (pickF _ _ _ _ _ wq ky rfl rfl hb_).mono ?_;rintro e wr ⟨⟨op_,rfl⟩,hr⟩;refine ⟨_,_,rfl,hq.keep hr,?_⟩;clear hr hb_ hq wr wq)) | apply Wl.nil
      refine Mt.backE (fun _ h => ⟨own_at h.own kw,own_at h.own kw,trivial⟩) ?_
      refine Mt.e1 8 ?_
      repeat' first | (apply Wl.callC (f := 199);exact rfl;exact ke;(intro wq hq;refine (ImmS_any _ wq).mono ?_;rintro e wr ⟨⟨im_,rfl,him_⟩,hr⟩;refine ⟨_,_,rfl,hq.keep hr,?_⟩;clear hr hq wr wq)) | apply Wl.nil
      refine Mt.backE (fun _ h => ⟨own_at h.own kw,own_at h.own kw,trivial⟩) ?_
      refine Mt.pu 9 ?_
      apply Wl.buildS;exact rfl;exact ki;exact kc;apply Wl.nilB
      refine Mt.e1 10 ?_
      repeat' first | (apply Wl.callC (f := 161);exact rfl;exact ke;(intro wq hq;refine (ofF _ _ _ _ _ _ wq kt).mono ?_;rintro e wr ⟨⟨o1_,o2_,o3_,o4_,o5_,rfl,hoR_⟩,hr⟩;refine ⟨_,_,rfl,hq.keep hr,?_⟩;clear hr hq wr wq)) | apply Wl.nil
      refine Mt.backE (fun _ h => ⟨own_at h.own kw,own_at h.own kw,trivial⟩) ?_
      refine Mt.e1 11 ?_
      repeat' first | (apply Wl.storeA;exact rfl;exact rfl;exact rfl;exact rfl;exact ke;exact kf) | apply Wl.nil
      refine Mt.backE (fun _ h => ⟨own_at h.own kw,own_at h.own kw,trivial⟩) ?_
      refine Mt.toGt kg ?_
      repeat' first | (apply Gt.outC';exact rfl;infer_instance;exact rfl;exact ke;exact ke;intro w' hp) | apply St.ret | apply Gt.next | apply Gt.thenRet | apply Gt.inRet
      exact ⟨⟨_,_,_,_,_,rfl,kt⟩,hp.drop zx⟩)
theorem dec_any (x : Int) (w : World) (hx : 0 ≤ x ∧ x < 4294967296) : Calls Tryz.prog 117 #[.int .u32 x] w fun e w' => (∃ o' rd' r1' r2' im' : Int,e = .returned (.agg #[.int .i64 o',.int .i64 rd',.int .i64 r1',.int .i64 r2',.int .u32 im']) ∧ InstR rd' r1' r2' im') ∧ Hp w [] w' := by
 refine enter (args := [_]) (Γ := [(0,_)]) Tryz.func117 Tryz.ntmps117 rfl odq (.cons rfl .nil) ?_
 have g1 := and31 (x.fdiv (2 ^ min (Int.toNat 7) IntKind.u32.bits))
 have g2 := and31 (x.fdiv (2 ^ min (Int.toNat 15) IntKind.u32.bits))
 have g3 := and31 (x.fdiv (2 ^ min (Int.toNat 20) IntKind.u32.bits))
 have g4 := and7 (x.fdiv (2 ^ min (Int.toNat 12) IntKind.u32.bits))
 have g5 := b64 .and (x.fdiv (2 ^ min (Int.toNat 12) IntKind.u32.bits)) 7
 generalize h1 : bits .and .u32 (x.fdiv (2 ^ min (Int.toNat 7) IntKind.u32.bits)) 31 = rd at *
 generalize h2 : bits .and .u32 (x.fdiv (2 ^ min (Int.toNat 15) IntKind.u32.bits)) 31 = r1 at *
 generalize h3 : bits .and .u32 (x.fdiv (2 ^ min (Int.toNat 20) IntKind.u32.bits)) 31 = r2 at *
 generalize h4 : bits .and .u32 (x.fdiv (2 ^ min (Int.toNat 12) IntKind.u32.bits)) 7 = f at *
 apply St.seq
 apply St.region
 apply Wl.alloc
 ·exact rfl
 intro c2 hc2 ho2
 apply Wl.nil
 apply Gt.next
 repeat' first | (apply Wl.andIs;exact rfl;exact rfl;exact rfl;exact h1) | (apply Wl.andIs;exact rfl;exact rfl;exact rfl;exact h2) | (apply Wl.andIs;exact rfl;exact rfl;exact rfl;exact h3) | (apply Wl.andIs;exact rfl;exact rfl;exact rfl;exact h4) | (apply Gt.outC';exact rfl;infer_instance;exact rfl;exact ke;exact ke;intro w' hp) | (apply Wl.callC (f := 158);exact rfl;exact ke;(intro wq hq;refine (u_any _ _ _ _ _ _ _ wq kt).mono ?_;rintro e wr ⟨⟨o1_,o2_,o3_,o4_,o5_,rfl,hoR_⟩,hr⟩;refine ⟨_,_,rfl,hq.keep hr,?_⟩;clear hr hq wr wq)) | (apply Wl.callC (f := 164);exact rfl;exact ke;(intro wq hq;refine (more_any _ _ _ _ _ _ _ _ wq hx g4 kt).mono ?_;rintro e wr ⟨⟨o1_,o2_,o3_,o4_,o5_,rfl,hoR_⟩,hr⟩;refine ⟨_,_,rfl,hq.keep hr,?_⟩;clear hr hq wr wq)) | refine Wl.move rfl rfl ?_ | refine Wl.assign rfl rfl ?_ | refine Wl.eql rfl rfl rfl ?_ | refine Wl.neq rfl rfl rfl ?_ | refine Wl.and rfl rfl rfl ?_ | (refine Wl.shr rfl rfl rfl ?_ ?_;omega) | (refine Wl.convI64 rfl rfl ?_ ?_;constructor <;> omega) | (apply Wl.storeA;exact rfl;exact rfl;exact rfl;exact rfl;exact ke;exact kf) | (apply Wl.loadAH;exact rfl;exact rfl;exact ke;exact ke) | (apply Wl.buildS;exact rfl;exact ki;exact kc) | (apply Wl.alloc;exact rfl;intro c hc ho) | apply Wl.nil | apply St.seq | apply St.block | apply St.region | apply St.ret | apply St.skip | apply Gt.next | apply Gt.thenRet | apply Gt.inNormal | apply Gt.inRet | (apply St.condP;exact rfl;all_goals (intros;try (exfalso;omega)))
 all_goals generalize c = cX at *
 all_goals first
  | exact ⟨⟨_,_,_,_,_,rfl,kt⟩,hp.drop zx⟩
  | skip
 ·skip
  refine St.tree (fun w' => Own w' [⟨cX,[Value.int .i64 0,.int .i64 rd,.int .i64 r1,.int .i64 r2,.int .u32 0],221⟩]) mixed (fun _ h => ⟨Hp.drew h,⟨own_at (Hp.drew h).own kw,trivial⟩⟩) ?_
  refine Mt.pz 0 ?_
  refine Mt.pu 1 ?_
  apply Wl.loadF;exact rfl;exact rfl;(intro w' h';first | exact cell_of h'.1 rfl);apply Wl.nilB
  refine Mt.pm 2 ?_
  refine Mt.e1 3 ?_
  repeat' first | (apply Wl.callC (f := 159);exact rfl;exact ke;(intro wq hq;refine (ImmJ_any _ wq).mono ?_;rintro e wr ⟨⟨im_,rfl,him_⟩,hr⟩;refine ⟨_,_,rfl,hq.keep hr,?_⟩;clear hr hq wr wq)) | apply Wl.nil
  refine Mt.backE (fun _ h => ⟨own_at h.own kw,trivial⟩) ?_
  refine Mt.pu 4 ?_
  apply Wl.buildS;exact rfl;exact ki;exact kc;apply Wl.nilB
  refine Mt.e1 5 ?_
  repeat' first | (apply Wl.storeA;exact rfl;exact rfl;exact rfl;exact rfl;exact ke;exact kf) | apply Wl.nil
  refine Mt.backE (fun _ h => ⟨own_at h.own kw,trivial⟩) ?_
  refine Mt.toGt kg ?_
  repeat' first | (apply Gt.outC';exact rfl;infer_instance;exact rfl;exact ke;exact ke;intro w' hp) | apply St.ret | apply Gt.next | apply Gt.thenRet | apply Gt.inRet
  exact ⟨⟨_,_,_,_,_,rfl,kt⟩,hp.drop zx⟩
 ·skip
  refine St.tree (fun w' => Own w' [⟨cX,[Value.int .i64 0,.int .i64 rd,.int .i64 r1,.int .i64 r2,.int .u32 0],221⟩]) mixed (fun _ h => ⟨Hp.drew h,⟨own_at (Hp.drew h).own kw,trivial⟩⟩) ?_
  refine Mt.pz 0 ?_
  refine Mt.pu 1 ?_
  apply Wl.loadF;exact rfl;exact rfl;(intro w' h';first | exact cell_of h'.1 rfl);apply Wl.nilB
  refine Mt.pz 2 ?_
  refine Mt.pu 3 ?_
  apply Wl.loadF;exact rfl;exact rfl;(intro w' h';first | exact cell_of h'.1 rfl);apply Wl.nilB
  refine Mt.pm 4 ?_
  refine Mt.e1 5 ?_
  repeat' first | (apply Wl.callC (f := 160);exact rfl;exact ke;(intro wq hq;refine (ImmI_any _ wq).mono ?_;rintro e wr ⟨⟨im_,rfl,him_⟩,hr⟩;refine ⟨_,_,rfl,hq.keep hr,?_⟩;clear hr hq wr wq)) | apply Wl.nil
  refine Mt.backE (fun _ h => ⟨own_at h.own kw,trivial⟩) ?_
  refine Mt.pu 6 ?_
  apply Wl.buildS;exact rfl;exact ki;exact kc;apply Wl.nilB
  refine Mt.e1 7 ?_
  repeat' first | (apply Wl.storeA;exact rfl;exact rfl;exact rfl;exact rfl;exact ke;exact kf) | apply Wl.nil
  refine Mt.backE (fun _ h => ⟨own_at h.own kw,trivial⟩) ?_
  refine Mt.toGt kg ?_
  repeat' first | (apply Gt.outC';exact rfl;infer_instance;exact rfl;exact ke;exact ke;intro w' hp) | apply St.ret | apply Gt.next | apply Gt.thenRet | apply Gt.inRet
  exact ⟨⟨_,_,_,_,_,rfl,kt⟩,hp.drop zx⟩
 ·skip
  refine St.tree (fun w' => Own w' [⟨cX,[Value.int .i64 0,.int .i64 rd,.int .i64 r1,.int .i64 r2,.int .u32 0],221⟩]) mixed (fun _ h => ⟨Hp.drew h,⟨own_at (Hp.drew h).own kw,trivial⟩⟩) ?_
  refine Mt.pm 0 ?_
  refine Mt.pz 3 ?_
  refine Mt.pu 4 ?_
  apply Wl.loadF;exact rfl;exact rfl;(intro w' h';first | exact cell_of h'.1 rfl);apply Wl.nilB
  refine Mt.pz 5 ?_
  refine Mt.pu 6 ?_
  apply Wl.loadF;exact rfl;exact rfl;(intro w' h';first | exact cell_of h'.1 rfl);apply Wl.nilB
  refine Mt.pm 7 ?_
  refine Mt.e1 1 ?_
  repeat' first | (apply Wl.lit;exact rfl;exact ki;exact rfl;exact rfl;exact kj;intro d_ hd_ hod_) | apply Wl.nil
  refine Mt.backE (fun _ h => ⟨own_at h.own kw,trivial⟩) ?_
  refine Mt.e1 2 ?_
  repeat' first | (apply Wl.callC (f := 162);exact rfl;exact ke;(intro wq hq;have hb_ := own_at hq.own (.head _);refine (pickF _ _ _ _ _ wq ky rfl rfl hb_).mono ?_;rintro e wr ⟨⟨op_,rfl⟩,hr⟩;refine ⟨_,_,rfl,hq.keep hr,?_⟩;clear hr hb_ hq wr wq)) | apply Wl.nil
  refine Mt.backE (fun _ h => ⟨own_at h.own kw,trivial⟩) ?_
  refine Mt.e1 8 ?_
  repeat' first | (apply Wl.callC (f := 163);exact rfl;exact ke;(intro wq hq;refine (ImmB_any _ wq).mono ?_;rintro e wr ⟨⟨im_,rfl,him_⟩,hr⟩;refine ⟨_,_,rfl,hq.keep hr,?_⟩;clear hr hq wr wq)) | apply Wl.nil
  refine Mt.backE (fun _ h => ⟨own_at h.own kw,trivial⟩) ?_
  refine Mt.pu 9 ?_
  apply Wl.buildS;exact rfl;exact ki;exact kc;apply Wl.nilB
  refine Mt.e1 10 ?_
  repeat' first | (apply Wl.callC (f := 161);exact rfl;exact ke;(intro wq hq;refine (ofF _ _ _ _ _ _ wq kt).mono ?_;rintro e wr ⟨⟨o1_,o2_,o3_,o4_,o5_,rfl,hoR_⟩,hr⟩;refine ⟨_,_,rfl,hq.keep hr,?_⟩;clear hr hq wr wq)) | apply Wl.nil
  refine Mt.backE (fun _ h => ⟨own_at h.own kw,trivial⟩) ?_
  refine Mt.e1 11 ?_
  repeat' first | (apply Wl.storeA;exact rfl;exact rfl;exact rfl;exact rfl;exact ke;exact kf) | apply Wl.nil
  refine Mt.backE (fun _ h => ⟨own_at h.own kw,trivial⟩) ?_
  refine Mt.toGt kg ?_
  repeat' first | (apply Gt.outC';exact rfl;infer_instance;exact rfl;exact ke;exact ke;intro w' hp) | apply St.ret | apply Gt.next | apply Gt.thenRet | apply Gt.inRet
  exact ⟨⟨_,_,_,_,_,rfl,kt⟩,hp.drop zx⟩
def zTab (i : Nat) : Int := (tabL[i]?).getD 0
theorem tabOk.at {w : World} (h : tabOk w) {i : Nat} (hi : i < 32) : (0 ≤ zTab i ∧ zTab i ≤ 31) ∧ w.cell? ⟨0,i,none⟩ = some (.int .u8 (zTab i)) := by
 obtain ⟨z,h1,h2,h3⟩ := h i hi
 have e : zTab i = z := by unfold zTab;rw [h1];rfl
 rw [e]
 exact ⟨h2,h3⟩
theorem zTab_ok {i : Nat} (hi : i < 32) : 0 ≤ zTab i ∧ zTab i ≤ 31 := by
 have : ∀ i : Fin 32,0 ≤ zTab i.1 ∧ zTab i.1 ≤ 31 := by decide
 exact this ⟨i,hi⟩
theorem tzE (x : Int) : ∃ n : Int,0 ≤ n ∧ ∀ w : World,tabOk w → Calls Tryz.prog 128 #[.int .u32 x] w fun e w' => e = .returned (.int .i64 n) ∧ Hp w [] w' := by
 by_cases hx : x = 0
 ·have hd : decide (x = 0) = true := decide_eq_true hx
  refine ⟨32,by decide,fun w hT => ?_⟩
  refine enter (args := [_]) (Γ := [(0,_)]) Tryz.func128 Tryz.ntmps128 rfl odq (.cons rfl .nil) ?_
  repeat' first | refine Wl.move rfl rfl ?_ | refine Wl.assign rfl rfl ?_ | (apply Wl.eqlIs;exact rfl;exact rfl;exact rfl;exact kv) | apply Wl.nil | apply St.seq | apply St.region | (apply St.condT;exact rfl;exact ka) | apply St.ret | apply Gt.next | apply Gt.thenRet | (apply Gt.out1;exact rfl;exact rfl;intro w' hp)
  exact ⟨rfl,hp⟩
 ·have hd : decide (x = 0) = false := decide_eq_false hx
  obtain ⟨i1,i2⟩ := idx27 (bits .and .u32 x (IntKind.u32.wrap (0 - x)) * 125613361)
  have hl : ((IntKind.u32.wrap (bits .and .u32 x (IntKind.u32.wrap (0 - x)) * 125613361)).fdiv (2 ^ min (Int.toNat 27) IntKind.u32.bits)).toNat < 32 := by omega
  have hz := zTab_ok hl
  refine ⟨_,hz.1,fun w hT => ?_⟩
  have hc := (hT.at hl).2
  have hc' : w.cell? ⟨0,0 + ((IntKind.u32.wrap (bits .and .u32 x (IntKind.u32.wrap (0 - x)) * 125613361)).fdiv (2 ^ min (Int.toNat 27) IntKind.u32.bits)).toNat * 1,none⟩ = some (.int .u8 (zTab ((IntKind.u32.wrap (bits .and .u32 x (IntKind.u32.wrap (0 - x)) * 125613361)).fdiv (2 ^ min (Int.toNat 27) IntKind.u32.bits)).toNat)) := by rw [Nat.zero_add,Nat.mul_one];exact hc
  refine enter (args := [_]) (Γ := [(0,_)]) Tryz.func128 Tryz.ntmps128 rfl odq (.cons rfl .nil) ?_
  generalize zTab ((IntKind.u32.wrap (bits .and .u32 x (IntKind.u32.wrap (0 - x)) * 125613361)).fdiv (2 ^ min (Int.toNat 27) IntKind.u32.bits)).toNat = z at *
  repeat' first | (apply Wl.loadO;exact rfl;exact rfl;exact hc';exact trivial) | refine Wl.move rfl rfl ?_ | refine Wl.assign rfl rfl ?_ | refine Wl.eql rfl rfl rfl ?_ | refine Wl.mul rfl rfl rfl ?_ | refine Wl.and rfl rfl rfl ?_ | (refine Wl.shr rfl rfl rfl ?_ ?_;omega) | (refine Wl.convI64 rfl rfl ?_ ?_;constructor <;> omega) | refine Wl.neg rfl rfl ?_ | (refine Wl.indexArr rfl rfl rfl ?_ ?_;constructor <;> omega) | apply Wl.nil | apply St.seq | apply St.region | (apply St.condF;exact rfl;exact ka) | apply St.ret | apply St.skip | apply Gt.next | (apply Gt.out1;exact rfl;exact rfl;intro w' hp)
  exact ⟨rfl,hp⟩
def EntX (w : World) (a : Option Addr) (n : Nat) (en : Nat → Int × Int × Int) : Prop := ∀ i : Nat,i < n → ∃ b o,a = some ⟨b,o,none⟩ ∧ w.cell? ⟨b,o + i * 3,none⟩ = some (.int .i64 (en i).1) ∧ w.cell? ⟨b,o + i * 3 + 1,none⟩ = some (.int .i64 (en i).2.1) ∧ w.cell? ⟨b,o + i * 3 + 2,none⟩ = some (.int .u32 (en i).2.2)
theorem EntX.upd {w w' : World} {a : Option Addr} {n : Nat} {en : Nat → Int × Int × Int} {S : Nat → Prop} (h : EntX w a n en) (u : Upd S w w') (hs : ∀ k,k < w.heap.size → ¬ S k) : EntX w' a n en := by
 intro i hi
 obtain ⟨b,o,e,h1,h2,h3⟩ := h i hi
 have hb := hs b (cell_old h1)
 exact ⟨b,o,e,u.cell h1 hb,u.cell h2 hb,u.cell h3 hb⟩
theorem rangeE (n : Nat) (en : Nat → Int × Int × Int) (i : Nat) (hi : i < n) (hn : n ≤ 16) : ∃ x y : Int,∀ (cap : Nat) (a : Option Addr) (w : World),EntX w a n en → tabOk w →
  Calls Tryz.prog 77 #[.slice a n cap,.int .i64 i] w fun e w' => e = .returned (.tuple #[.int .u64 x,.int .u64 y]) ∧ Hp w [] w' := by
 have hd0 : decide ((i : Int) < 0) = false := decide_eq_false ky
 have hd1 : decide ((i : Int) ≥ (n : Int)) = false := decide_eq_false ky
 by_cases w1 : (en i).1 = 1
 ·have d1 : decide ((en i).1 = 1) = true := decide_eq_true w1
  by_cases hp0 : 0 < i
  ·have d0 : decide ((i : Int) > 0) = true := decide_eq_true ky
   apply Exists.intro;apply Exists.intro;intro cap a w hS hT
   obtain ⟨b,o,rfl,h1,h2,h3⟩ := hS i hi
   obtain ⟨b',o',e,_,_,g3⟩ := hS (i - 1) ky
   cases e
   have p0 : w.cell? ⟨b,o + (i : Int).toNat * 3,none⟩ = some (.int .i64 (en i).1) := by rw [Int.toNat_natCast];exact h1
   have p2 : w.cell? ⟨b,o + (i : Int).toNat * 3 + 2,none⟩ = some (.int .u32 (en i).2.2) := by rw [Int.toNat_natCast];exact h3
   have p3 : w.cell? ⟨b,o + ((i : Int) - 1).toNat * 3 + 2,none⟩ = some (.int .u32 (en (i - 1)).2.2) := by rw [show ((i : Int) - 1).toNat = i - 1 by omega];exact g3
   refine enter (args := [_,_]) (Γ := [(0,_),(1,_)]) Tryz.func77 Tryz.ntmps77 rfl odq (.cons rfl (.cons rfl .nil)) ?_
   repeat' first | (apply Wl.loadO;exact rfl;exact rfl;(first | exact p0 | exact p2 | exact p3);exact trivial) | refine Wl.max2 rfl rfl rfl ?_ | refine Wl.move rfl rfl ?_ | refine Wl.assign rfl rfl ?_ | (apply Wl.on;exact rfl;exact rfl;exact ka) | (apply Wl.pickF;exact rfl;exact rfl;exact ka;exact rfl) | refine Wl.fieldAddr0 rfl rfl ?_ | refine Wl.fieldAddr rfl rfl ?_ | (apply Wl.eqlIs;exact rfl;exact rfl;exact rfl;exact kv) | refine Wl.lss rfl rfl rfl ?_ | refine Wl.gtr rfl rfl rfl ?_ | refine Wl.geq rfl rfl rfl ?_ | (refine Wl.subI rfl rfl rfl ?_ ?_;constructor <;> omega) | (refine Wl.shl rfl rfl rfl ?_ ?_;omega) | refine Wl.convI rfl rfl ?_ | refine Wl.len rfl rfl ?_ | (refine Wl.indexAddr rfl rfl rfl ?_ ?_;constructor <;> omega) | apply Wl.nil | apply St.seq | apply St.block | apply St.region | (apply St.condT;exact rfl;exact ka) | (apply St.condF;exact rfl;exact ka) | apply St.ret | apply St.skip | apply Gt.next | apply Gt.thenRet | apply Gt.inRet | (apply Gt.out2;exact rfl;exact rfl;exact rfl;intro w' hp)
   exact ⟨rfl,hp⟩
  ·have d0 : decide ((i : Int) > 0) = false := decide_eq_false ky
   apply Exists.intro;apply Exists.intro;intro cap a w hS hT
   obtain ⟨b,o,rfl,h1,h2,h3⟩ := hS i hi
   have p0 : w.cell? ⟨b,o + (i : Int).toNat * 3,none⟩ = some (.int .i64 (en i).1) := by rw [Int.toNat_natCast];exact h1
   have p2 : w.cell? ⟨b,o + (i : Int).toNat * 3 + 2,none⟩ = some (.int .u32 (en i).2.2) := by rw [Int.toNat_natCast];exact h3
   refine enter (args := [_,_]) (Γ := [(0,_),(1,_)]) Tryz.func77 Tryz.ntmps77 rfl odq (.cons rfl (.cons rfl .nil)) ?_
   repeat' first | (apply Wl.loadO;exact rfl;exact rfl;exact j6;exact trivial) | refine Wl.max2 rfl rfl rfl ?_ | refine Wl.move rfl rfl ?_ | refine Wl.assign rfl rfl ?_ | (apply Wl.on;exact rfl;exact rfl;exact ka) | (apply Wl.pickF;exact rfl;exact rfl;exact ka;exact rfl) | refine Wl.fieldAddr0 rfl rfl ?_ | refine Wl.fieldAddr rfl rfl ?_ | (apply Wl.eqlIs;exact rfl;exact rfl;exact rfl;exact kv) | refine Wl.lss rfl rfl rfl ?_ | refine Wl.gtr rfl rfl rfl ?_ | refine Wl.geq rfl rfl rfl ?_ | (refine Wl.shl rfl rfl rfl ?_ ?_;omega) | refine Wl.convI rfl rfl ?_ | refine Wl.len rfl rfl ?_ | (refine Wl.indexAddr rfl rfl rfl ?_ ?_;constructor <;> omega) | apply Wl.nil | apply St.seq | apply St.block | apply St.region | (apply St.condT;exact rfl;exact ka) | (apply St.condF;exact rfl;exact ka) | apply St.ret | apply St.skip | apply Gt.next | apply Gt.thenRet | apply Gt.inRet | (apply Gt.out2;exact rfl;exact rfl;exact rfl;intro w' hp)
   exact ⟨rfl,hp⟩
 have d1 : decide ((en i).1 = 1) = false := decide_eq_false w1
 by_cases w2 : (en i).1 = 2
 ·have d2 : decide ((en i).1 = 2) = true := decide_eq_true w2
  apply Exists.intro;apply Exists.intro;intro cap a w hS hT
  obtain ⟨b,o,rfl,h1,h2,h3⟩ := hS i hi
  have p0 : w.cell? ⟨b,o + (i : Int).toNat * 3,none⟩ = some (.int .i64 (en i).1) := by rw [Int.toNat_natCast];exact h1
  have p2 : w.cell? ⟨b,o + (i : Int).toNat * 3 + 2,none⟩ = some (.int .u32 (en i).2.2) := by rw [Int.toNat_natCast];exact h3
  refine enter (args := [_,_]) (Γ := [(0,_),(1,_)]) Tryz.func77 Tryz.ntmps77 rfl odq (.cons rfl (.cons rfl .nil)) ?_
  repeat' first | (apply Wl.loadO;exact rfl;exact rfl;exact j6;exact trivial) | refine Wl.move rfl rfl ?_ | refine Wl.assign rfl rfl ?_ | (apply Wl.on;exact rfl;exact rfl;exact ka) | (apply Wl.pickF;exact rfl;exact rfl;exact ka;exact rfl) | refine Wl.fieldAddr0 rfl rfl ?_ | refine Wl.fieldAddr rfl rfl ?_ | (apply Wl.eqlIs;exact rfl;exact rfl;exact rfl;exact kv) | refine Wl.eql rfl rfl rfl ?_ | refine Wl.lss rfl rfl rfl ?_ | refine Wl.geq rfl rfl rfl ?_ | refine Wl.add rfl rfl rfl ?_ | (refine Wl.shl rfl rfl rfl ?_ ?_;omega) | refine Wl.convI rfl rfl ?_ | refine Wl.len rfl rfl ?_ | (refine Wl.indexAddr rfl rfl rfl ?_ ?_;constructor <;> omega) | apply Wl.nil | apply St.seq | apply St.block | apply St.region | (apply St.condT;exact rfl;exact ka) | (apply St.condF;exact rfl;exact ka) | apply St.ret | apply St.skip | apply Gt.next | apply Gt.thenRet | apply Gt.inRet | (apply Gt.out2;exact rfl;exact rfl;exact rfl;intro w' hp)
  exact ⟨rfl,hp⟩
 have d2 : decide ((en i).1 = 2) = false := decide_eq_false w2
 by_cases w3 : (en i).1 = 3
 ·have d3 : decide ((en i).1 = 3) = true := decide_eq_true w3
  obtain ⟨k,hk,hz⟩ := tzE (bits .xor .u32 IntKind.u32.max (en i).2.2)
  apply Exists.intro;apply Exists.intro;intro cap a w hS hT
  obtain ⟨b,o,rfl,h1,h2,h3⟩ := hS i hi
  have p0 : w.cell? ⟨b,o + (i : Int).toNat * 3,none⟩ = some (.int .i64 (en i).1) := by rw [Int.toNat_natCast];exact h1
  have p2 : w.cell? ⟨b,o + (i : Int).toNat * 3 + 2,none⟩ = some (.int .u32 (en i).2.2) := by rw [Int.toNat_natCast];exact h3
  refine enter (args := [_,_]) (Γ := [(0,_),(1,_)]) Tryz.func77 Tryz.ntmps77 rfl odq (.cons rfl (.cons rfl .nil)) ?_
  repeat' first | (apply Wl.loadO;exact rfl;exact rfl;exact j6;exact trivial) | (apply Wl.callQ;exact rfl;exact ke;(intro wq hq;exact hq.q (hz wq (hT.upd hq.upd fun y => y trivial)))) | refine Wl.move rfl rfl ?_ | refine Wl.assign rfl rfl ?_ | (apply Wl.on;exact rfl;exact rfl;exact ka) | (apply Wl.pickF;exact rfl;exact rfl;exact ka;exact rfl) | refine Wl.fieldAddr0 rfl rfl ?_ | refine Wl.fieldAddr rfl rfl ?_ | (apply Wl.eqlIs;exact rfl;exact rfl;exact rfl;exact kv) | refine Wl.eql rfl rfl rfl ?_ | refine Wl.lss rfl rfl rfl ?_ | refine Wl.geq rfl rfl rfl ?_ | refine Wl.add rfl rfl rfl ?_ | refine Wl.sub' rfl rfl rfl ?_ | refine Wl.andNot rfl rfl rfl ?_ | (refine Wl.shl rfl rfl rfl ?_ ?_;omega) | refine Wl.convI rfl rfl ?_ | refine Wl.compl rfl rfl ?_ | refine Wl.len rfl rfl ?_ | (refine Wl.indexAddr rfl rfl rfl ?_ ?_;constructor <;> omega) | apply Wl.nil | apply St.seq | apply St.block | apply St.region | (apply St.condT;exact rfl;exact ka) | (apply St.condF;exact rfl;exact ka) | apply St.ret | apply St.skip | apply Gt.next | apply Gt.thenRet | apply Gt.inRet | (apply Gt.out2;exact rfl;exact rfl;exact rfl;intro w' hp)
  exact ⟨rfl,hp⟩
 have d3 : decide ((en i).1 = 3) = false := decide_eq_false w3
 apply Exists.intro;apply Exists.intro;intro cap a w hS hT
 obtain ⟨b,o,rfl,h1,h2,h3⟩ := hS i hi
 have p0 : w.cell? ⟨b,o + (i : Int).toNat * 3,none⟩ = some (.int .i64 (en i).1) := by rw [Int.toNat_natCast];exact h1
 have p2 : w.cell? ⟨b,o + (i : Int).toNat * 3 + 2,none⟩ = some (.int .u32 (en i).2.2) := by rw [Int.toNat_natCast];exact h3
 refine enter (args := [_,_]) (Γ := [(0,_),(1,_)]) Tryz.func77 Tryz.ntmps77 rfl odq (.cons rfl (.cons rfl .nil)) ?_
 repeat' first | (apply Wl.loadO;exact rfl;exact rfl;exact j6;exact trivial) | refine Wl.move rfl rfl ?_ | refine Wl.assign rfl rfl ?_ | (apply Wl.on;exact rfl;exact rfl;exact ka) | (apply Wl.pickF;exact rfl;exact rfl;exact ka;exact rfl) | refine Wl.fieldAddr0 rfl rfl ?_ | refine Wl.fieldAddr rfl rfl ?_ | refine Wl.eql rfl rfl rfl ?_ | refine Wl.lss rfl rfl rfl ?_ | refine Wl.geq rfl rfl rfl ?_ | refine Wl.convI rfl rfl ?_ | refine Wl.len rfl rfl ?_ | (refine Wl.indexAddr rfl rfl rfl ?_ ?_;constructor <;> omega) | apply Wl.nil | apply St.seq | apply St.block | apply St.region | (apply St.condF;exact rfl;exact ka) | apply St.ret | apply St.skip | apply Gt.next | apply Gt.inNormal | (apply Gt.out2;exact rfl;exact rfl;exact rfl;intro w' hp)
 exact ⟨rfl,hp⟩
theorem rangeE' (n : Nat) (en : Nat → Int × Int × Int) (i : Nat) : ∃ p : Int × Int,i < n → n ≤ 16 → ∀ (cap : Nat) (a : Option Addr) (w : World),EntX w a n en → tabOk w →
  Calls Tryz.prog 77 #[.slice a n cap,.int .i64 i] w fun e w' => e = .returned (.tuple #[.int .u64 p.1,.int .u64 p.2]) ∧ Hp w [] w' := by
 by_cases hi : i < n ∧ n ≤ 16
 ·obtain ⟨x,y,h⟩ := rangeE n en i hi.1 hi.2
  exact ⟨(x,y),fun _ _ => h⟩
 ·exact ⟨(0,0),fun h1 h2 => (hi ⟨h1,h2⟩).elim⟩
noncomputable def rg (n : Nat) (en : Nat → Int × Int × Int) (i : Nat) : Int × Int := Classical.choose (rangeE' n en i)
theorem rg_spec (n : Nat) (en : Nat → Int × Int × Int) (i : Nat) (hi : i < n) (hn : n ≤ 16) (cap : Nat) (a : Option Addr) (w : World) (hS : EntX w a n en) (hT : tabOk w) :
  Calls Tryz.prog 77 #[.slice a n cap,.int .i64 i] w fun e w' => e = .returned (.tuple #[.int .u64 (rg n en i).1,.int .u64 (rg n en i).2]) ∧ Hp w [] w' := Classical.choose_spec (rangeE' n en i) hi hn cap a w hS hT
noncomputable def chk (n : Nat) (en : Nat → Int × Int × Int) (fr to r : Int) : Nat → Bool
 | 0 => false
 | k + 1 => if (rg n en (n - (k + 1))).2 ≤ fr ∨ to ≤ (rg n en (n - (k + 1))).1 ∨ (rg n en (n - (k + 1))).1 ≥ (rg n en (n - (k + 1))).2 then chk n en fr to r k
   else decide ((rg n en (n - (k + 1))).1 ≤ fr) && (decide (to ≤ (rg n en (n - (k + 1))).2) && decide (bits .and .i64 (en (n - (k + 1))).2.1 r = r))
noncomputable def chkB (n : Nat) (en : Nat → Int × Int × Int) (at_ k r : Int) : Bool := if k < 1 then false else chk n en (IntKind.u64.wrap at_) (IntKind.u64.wrap (IntKind.u64.wrap at_ + IntKind.u64.wrap k)) r n
theorem checkE (n cap : Nat) (en : Nat → Int × Int × Int) (a : Option Addr) (at_ k r : Int) (w : World) (hn : n ≤ 16) (hS : EntX w a n en) (hT : tabOk w) :
  Calls Tryz.prog 25 #[.slice a n cap,.int .u32 at_,.int .i64 k,.int .i64 r] w fun e w' => e = .returned (.bool (chkB n en at_ k r)) ∧ Hp w [] w' := by
 refine enter (args := [_,_,_,_]) (Γ := [(0,_),(1,_),(2,_),(3,_)]) Tryz.func25 Tryz.ntmps25 rfl odq (.cons rfl (.cons rfl (.cons rfl (.cons rfl .nil)))) ?_
 by_cases hk1 : k < 1
 ·have d1 : decide (k < 1) = true := decide_eq_true hk1
  repeat' first | refine Wl.move rfl rfl ?_ | refine Wl.assign rfl rfl ?_ | refine Wl.lss rfl rfl rfl ?_ | apply Wl.nil | apply St.seq | apply St.region | (apply St.condT;exact rfl;exact ka) | apply St.ret | apply Gt.next | apply Gt.thenRet | (apply Gt.out1;exact rfl;exact rfl;intro w' hp)
  exact ⟨by unfold chkB;rw [if_pos hk1],hp⟩
 have d1 : decide (k < 1) = false := decide_eq_false hk1
 have hB : chkB n en at_ k r = chk n en (IntKind.u64.wrap at_) (IntKind.u64.wrap (IntKind.u64.wrap at_ + IntKind.u64.wrap k)) r n := by unfold chkB;rw [if_neg hk1]
 rw [hB]
 generalize hfr : IntKind.u64.wrap at_ = fr
 repeat' first | refine Wl.convI rfl rfl ?_ | refine Wl.move rfl rfl ?_ | refine Wl.assign rfl rfl ?_ | refine Wl.lss rfl rfl rfl ?_ | refine Wl.add rfl rfl rfl ?_ | refine Wl.len rfl rfl ?_ | apply Wl.nil | apply St.seq | apply St.block | apply St.region | (apply St.condF;exact rfl;exact ka) | apply St.skip | apply Gt.next
 rw [hfr]
 generalize hto : IntKind.u64.wrap (fr + IntKind.u64.wrap k) = to
 generalize hCn : chk n en fr to r n = B
 refine St.loop (σ := Nat) (fun i => i ≤ n ∧ B = chk n en fr to r (n - i)) (fun i => [(25,.int .i64 i),(24,.int .i64 n),(0,.slice a n cap),(3,.int .i64 r),(9,.int .u64 fr),(10,.int .u64 to)])
  (fun _ => Hp w []) (fun i => n - i) 0 ⟨Nat.zero_le _,hCn.symm⟩ kw (fun _ h => h) ?_
 rintro i ⟨hi,hc⟩
 clear hCn
 by_cases hlt : i < n
 ·obtain ⟨b,o,rfl,h1,h2,h3⟩ := hS i hlt
  have p1 : w.cell? ⟨b,o + (i : Int).toNat * 3 + 1,none⟩ = some (.int .i64 (en i).2.1) := by rw [Int.toNat_natCast];exact h2
  have dl : decide ((i : Int) < (n : Int)) = true := decide_eq_true ky
  have hs1 : n - i = (n - (i + 1)) + 1 := by omega
  have hs2 : n - (n - (i + 1) + 1) = i := by omega
  rw [hs1] at hc
  unfold chk at hc
  rw [hs2] at hc
  have hR := rg_spec n en i hlt hn cap (some ⟨b,o,none⟩)
  generalize rg n en i = p at *
  obtain ⟨x1,x2⟩ := p
  simp only at hc hR
  by_cases c1 : x2 ≤ fr ∨ to ≤ x1 ∨ x1 ≥ x2
  ·rw [if_pos c1] at hc
   repeat' first | (apply Wl.callQ;exact rfl;exact ke;exact qm) | refine Wl.move rfl rfl ?_ | refine Wl.assign rfl rfl ?_ | (apply Wl.on;exact rfl;exact rfl;exact ka) | (apply Wl.off;exact rfl;exact rfl;exact rfl;exact kq) | refine Wl.extract rfl rfl rfl ?_ | (apply Wl.pickT;exact rfl;exact rfl;exact ka;exact rfl) | (apply Wl.pickF;exact rfl;exact rfl;exact ka;exact rfl) | refine Wl.lss rfl rfl rfl ?_ | refine Wl.leq rfl rfl rfl ?_ | refine Wl.geq rfl rfl rfl ?_ | (refine Wl.addI rfl rfl rfl ?_ ?_;constructor <;> omega) | apply Wl.nil | apply St.seq | apply St.block | apply St.region | (apply St.condT;exact rfl;exact ka) | apply St.skip | apply St.exit | apply Gt.next | apply Gt.thenExit | apply Gt.inExit | (apply Wl.splitP;exact rfl;exact rfl;all_goals (intros;try (exfalso;omega))) | (apply St.condP;exact rfl;all_goals (intros;try (exfalso;omega)))
   all_goals
    apply Gt.round (i + 1)
    rotate_left
    ·omega
    ·exact ke
    ·exact fun _ h => h
    ·exact ⟨hlt,hc⟩
  ·rw [if_neg c1] at hc
   rw [hc]
   repeat' first | (apply Wl.callQ;exact rfl;exact ke;exact qm) | (apply Wl.loadO;exact rfl;exact rfl;exact p1;exact trivial) | refine Wl.move rfl rfl ?_ | refine Wl.assign rfl rfl ?_ | (apply Wl.on;exact rfl;exact rfl;exact ka) | (apply Wl.off;exact rfl;exact rfl;exact rfl;exact kq) | refine Wl.extract rfl rfl rfl ?_ | (apply Wl.pickT;exact rfl;exact rfl;exact ka;exact rfl) | (apply Wl.pickF;exact rfl;exact rfl;exact ka;exact rfl) | refine Wl.fieldAddr rfl rfl ?_ | refine Wl.eql rfl rfl rfl ?_ | refine Wl.lss rfl rfl rfl ?_ | refine Wl.leq rfl rfl rfl ?_ | refine Wl.geq rfl rfl rfl ?_ | refine Wl.and rfl rfl rfl ?_ | (refine Wl.indexAddr rfl rfl rfl ?_ ?_;constructor <;> omega) | apply Wl.nil | apply St.seq | apply St.block | apply St.region | (apply St.condT;exact rfl;exact ka) | apply St.ret | apply St.skip | apply Gt.next | apply Gt.thenRet | apply Gt.inRet | (apply Gt.out1;exact rfl;exact rfl;intro w' hp) | (apply Wl.splitP;exact rfl;exact rfl;all_goals (intros;try (exfalso;omega))) | (apply St.condP;exact rfl;all_goals (intros;try (exfalso;omega)))
   all_goals exact ⟨by simp [*],hp⟩
 ·have dl : decide ((i : Int) < (n : Int)) = false := decide_eq_false ky
  obtain rfl : i = n := by omega
  repeat' first | refine Wl.assign rfl rfl ?_ | refine Wl.lss rfl rfl rfl ?_ | apply Wl.nil | apply St.seq | apply St.region | (apply St.condF;exact rfl;exact ka) | apply St.ret | apply St.exit | apply Gt.next | apply Gt.thenExit | apply Gt.inExit | (apply Gt.out1;exact rfl;exact rfl;intro w' hp)
  exact ⟨by rw [hc,Nat.sub_self];rfl,hp⟩
end Go.Proofs.YtabbklpalbikdaaGreatDoor
end
section
namespace Go.Pt
open Go.RowKit
theorem LSet.left {xs r : List Value} {i : Nat} {v : Value} (h : i < xs.length) : LSet (xs ++ r) i v (xs.set i v ++ r) := by
 induction xs generalizing i with
 | nil => cases h
 | cons x s ih =>
  cases i with
  | zero => exact .z
  | succ i => exact .s (ih (by simpa using h))
end Go.Pt
namespace Go.Proofs.YtabbklpalbikdaaGreatDoor
open Go.RowKit Go.Pt
structure Fs where
 (md st mie mip tv sc ep ca tl cy re : Int)
 cf : List Value
def Fs.cells (F : Fs) : List Value := .int .i64 F.md :: .int .u32 F.st :: .int .u32 F.mie :: .int .u32 F.mip :: .int .u32 F.tv :: .int .u32 F.sc :: .int .u32 F.ep :: .int .u32 F.ca :: .int .u32 F.tl :: (F.cf ++ [.int .u64 F.cy,.int .u64 F.re])
def Fs.tick (F : Fs) (on : Bool) : Fs := { F with cy := IntKind.u64.wrap (F.cy + 1),re := if on then IntKind.u64.wrap (F.re + 1) else F.re }
def FX (w : World) (c : Nat) (F : Fs) : Prop := F.cf.length = 32 ∧ Kd fkd 34 (F.cf ++ [.int .u64 F.cy,.int .u64 F.re]) ∧ w.heap[c]? = some (.cells F.cells.toArray 145 (0,0))
theorem FX.ff {w : World} {c : Nat} {F : Fs} (h : FX w c F) : FF w c F.md F.tv := ⟨_,_,_,_,_,_,_,_,h.2.1,h.2.2⟩
theorem FX.lt {w : World} {c : Nat} {F : Fs} (h : FX w c F) : c < w.heap.size := lt_of_block h.2.2
theorem FX.upd {w w' : World} {c : Nat} {F : Fs} {S : Nat → Prop} (h : FX w c F) (u : Upd S w w') (hs : ¬ S c) : FX w' c F := ⟨h.1,h.2.1,u.heap h.2.2 hs⟩
theorem kd_tail {cf : List Value} {a b a' b' : Int} (hl : cf.length = 32) (h : Kd fkd 34 (cf ++ [.int .u64 a,.int .u64 b])) : Kd fkd 34 (cf ++ [.int .u64 a',.int .u64 b']) := by
 refine ⟨by simp [hl],fun i hi => ?_⟩
 by_cases h1 : i < 32
 ·obtain ⟨x,hx⟩ := h.2 i hi
  rw [List.getElem?_append_left ky] at hx ⊢
  exact ⟨x,hx⟩
 ·rw [List.getElem?_append_right ky,hl,fkd64 ky]
  have : i = 32 ∨ i = 33 := by omega
  rcases this with rfl | rfl
  ·exact ⟨a',rfl⟩
  ·exact ⟨b',rfl⟩
theorem fx41 {cf : List Value} {v0 v1 v2 v3 v4 v5 v6 v7 v8 a b : Value} (hl : cf.length = 32) : (v0 :: v1 :: v2 :: v3 :: v4 :: v5 :: v6 :: v7 :: v8 :: (cf ++ [a,b]))[41]? = some a := by
 simp only [List.getElem?_cons_succ]
 rw [List.getElem?_append_right ky,hl];rfl
theorem fx42 {cf : List Value} {v0 v1 v2 v3 v4 v5 v6 v7 v8 a b : Value} (hl : cf.length = 32) : (v0 :: v1 :: v2 :: v3 :: v4 :: v5 :: v6 :: v7 :: v8 :: (cf ++ [a,b]))[42]? = some b := by
 simp only [List.getElem?_cons_succ]
 rw [List.getElem?_append_right ky,hl];rfl
theorem ls41 {cf : List Value} {v0 v1 v2 v3 v4 v5 v6 v7 v8 a b v : Value} (hl : cf.length = 32) : LSet (v0 :: v1 :: v2 :: v3 :: v4 :: v5 :: v6 :: v7 :: v8 :: (cf ++ [a,b])) 41 v (v0 :: v1 :: v2 :: v3 :: v4 :: v5 :: v6 :: v7 :: v8 :: (cf ++ [v,b])) := by
 have := LSet.app (xs := cf) (LSet.z (x := a) (v := v) (r := [b]))
 rw [hl] at this
 exact .s (.s (.s (.s (.s (.s (.s (.s (.s this))))))))
theorem ls42 {cf : List Value} {v0 v1 v2 v3 v4 v5 v6 v7 v8 a b v : Value} (hl : cf.length = 32) : LSet (v0 :: v1 :: v2 :: v3 :: v4 :: v5 :: v6 :: v7 :: v8 :: (cf ++ [a,b])) 42 v (v0 :: v1 :: v2 :: v3 :: v4 :: v5 :: v6 :: v7 :: v8 :: (cf ++ [a,v])) := by
 have := LSet.app (xs := cf) (LSet.s (x := a) (LSet.z (x := b) (v := v) (r := [])))
 rw [hl] at this
 exact .s (.s (.s (.s (.s (.s (.s (.s (.s this))))))))
theorem ftickX (c : Nat) (on : Bool) (F : Fs) (w : World) (hF : FX w c F) :
  Calls Tryz.prog 147 #[.pointer (some ⟨c,0,none⟩),.bool on] w fun e w' => e = .returned (.tuple #[]) ∧ FX w' c (F.tick on) ∧ Upd (fun k => k = c) w w' := by
 obtain ⟨hl,hk,hc⟩ := hF
 obtain ⟨md,st,mie,mip,tv,sc,ep,ca,tl,cy,re,cf⟩ := F
 simp only [Fs.cells] at hl hk hc
 refine enter (args := [_,_]) (Γ := [(0,_),(1,_)]) Tryz.func147 Tryz.ntmps147 rfl odq (.cons rfl (.cons rfl .nil)) ?_
 refine St.cls (C' := Hp w [⟨c,.int .i64 md :: .int .u32 st :: .int .u32 mie :: .int .u32 mip :: .int .u32 tv :: .int .u32 sc :: .int .u32 ep :: .int .u32 ca :: .int .u32 tl :: (cf ++ [.int .u64 cy,.int .u64 re]),145⟩]) (fun _ h' => Hp.open h' hc) ?_
 cases on
 all_goals repeat' first | (apply Wl.loadH;exact rfl;exact rfl;exact ke;(first | exact fx41 hl | exact fx42 hl)) | (apply Wl.store;exact rfl;exact rfl;exact rfl;exact ke;(first | exact ls41 hl | exact ls42 hl)) | refine Wl.move rfl rfl ?_ | refine Wl.nilCheck rfl rfl ?_ | refine Wl.fieldAddrZ rfl rfl ?_ | refine Wl.eqlPN rfl rfl rfl ?_ | refine Wl.add rfl rfl rfl ?_ | apply Wl.nil | apply St.seq | apply St.region | (apply St.condT;exact rfl;exact ka) | (apply St.condF;exact rfl;exact ka) | apply St.skip | apply Gt.next | (apply Gt.out0n;exact rfl;intro w' hp)
 all_goals exact ⟨rfl,⟨hl,kd_tail hl hk,hp.own.at (.head _)⟩,Hp.turned hp⟩
def enF (cf : List Value) (i : Nat) : Int × Int × Int := (IntKind.i64.wrap (bits .and .u8 ((intAt cf i).fdiv (2 ^ min (Int.toNat 3) IntKind.u8.bits)) 3),IntKind.i64.wrap (bits .and .u8 (intAt cf i) 7),intAt cf (16 + i))
noncomputable def mayB (cf : List Value) (at_ k r : Int) : Bool := chkB 16 (enF cf) at_ k r
theorem intAt_app {cf r : List Value} {i : Nat} (h : i < cf.length) : intAt (cf ++ r) i = intAt cf i := by
 unfold intAt
 rw [List.getElem?_append_left h]
theorem may1X (c : Nat) (F : Fs) (at_ k r : Int) (w : World) (hF : FX w c F) (hmd : F.md = 0) (hT : tabOk w) :
  Calls Tryz.prog 115 #[.pointer (some ⟨c,0,none⟩),.int .u32 at_,.int .i64 k,.int .i64 r] w fun e w' => e = .returned (.bool (mayB F.cf at_ k r)) ∧ Hp w [] w' := by
 obtain ⟨hl,hk,hc⟩ := hF
 obtain ⟨md,st,mie,mip,tv,sc,ep,ca,tl,cy,re,cf⟩ := F
 simp only at hmd
 subst hmd
 simp only [Fs.cells] at hl hk hc ⊢
 have m0 : w.cell? ⟨c,0,none⟩ = some (.int .i64 0) := cell_of hc rfl
 have hlt := lt_of_block hc
 refine enter (args := [_,_,_,_]) (Γ := [(0,_),(1,_),(2,_),(3,_)]) Tryz.func115 Tryz.ntmps115 rfl odq (.cons rfl (.cons rfl (.cons rfl (.cons rfl .nil)))) ?_
 repeat' first | (apply Wl.loadO;exact rfl;exact rfl;exact m0;exact trivial) | refine Wl.move rfl rfl ?_ | refine Wl.assign rfl rfl ?_ | refine Wl.nilCheck rfl rfl ?_ | refine Wl.fieldAddr0 rfl rfl ?_ | refine Wl.eqlPN rfl rfl rfl ?_ | (apply Wl.eqlIs;exact rfl;exact rfl;exact rfl;exact kv) | apply Wl.nil | apply St.seq | apply St.region | (apply St.condT;exact rfl;exact ka) | (apply St.condF;exact rfl;exact ka) | apply St.skip | apply Gt.next
 apply Wl.callC
 ·exact rfl
 ·exact ke
 intro wq hq
 obtain ⟨h1,h2⟩ := cfg_cells (md := 0) hk (hq.upd.heap hc fun y => y trivial)
 refine (entries_any c _ _ wq (by have := hq.upd.size;omega) h1 h2).mono ?_
 rintro e wr ⟨v,rfl,hv,hu⟩
 have hE : ∃ a cap,v = .slice a 16 cap ∧ EntX wr a 16 (enF cf) := by
  obtain ⟨hl',a,cap,rfl,_,_,_,hcc⟩ := Sv.ofOwn hv
  obtain ⟨b,o,rfl,hx⟩ := hcc (fun e => by rw [e] at hl';cases hl')
  refine ⟨_,cap,rfl,fun i hi => ⟨b,o,rfl,?_⟩⟩
  have key : ∀ j v,j < 3 → (entG (intAt (cf ++ [.int .u64 cy,.int .u64 re]) i) (intAt (cf ++ [.int .u64 cy,.int .u64 re]) (16 + i)))[j]? = some v → wr.cell? ⟨b,o + i * 3 + j,none⟩ = some v := fun j v hj hv => by
   have e1 := entsG_at (fun i => intAt (cf ++ [.int .u64 cy,.int .u64 re]) i) (fun i => intAt (cf ++ [.int .u64 cy,.int .u64 re]) (16 + i)) (n := 16) hi hj
   rw [hv] at e1
   obtain ⟨l1,e1⟩ := List.getElem?_eq_some_iff.1 e1
   rw [Nat.add_assoc,hx _ l1,e1]
  rw [intAt_app ky,intAt_app ky] at key
  exact ⟨key 0 _ ze rfl,key 1 _ ze rfl,key 2 _ ze rfl⟩
 obtain ⟨a,cap,rfl,hE⟩ := hE
 have hTr : tabOk wr := (hT.upd hq.upd fun y => y trivial).upd hu (by have := (hT.upd hq.upd fun y => y trivial).lt;omega)
 have hwr : Upd (fun k => w.heap.size ≤ k) w wr := hq.upd.comp hu fun k _ hs => hs.elim (fun y => (y trivial).elim) fun e => by have := hq.upd.size;omega
 refine ⟨_,_,rfl,Hp.start wr,?_⟩
 clear hq hu h1 h2 hv wq
 repeat' first | refine Wl.move rfl rfl ?_
 apply Wl.callQ
 exact rfl
 (focus repeat constructor)
 ·intro wq hq
  exact hq.q (checkE 16 cap _ a _ _ _ wq ky (hE.upd hq.upd fun _ _ y => y trivial) (hTr.upd hq.upd fun y => y trivial))
 repeat' first | refine Wl.assign rfl rfl ?_ | apply Wl.nil | apply St.ret | apply Gt.next | apply Gt.thenRet | (apply Gt.out1;exact rfl;exact rfl;intro w' hp)
 exact ⟨rfl,newHp hwr hp.upd fun k y => (y trivial).elim⟩
def Rg (xs : List Value) : Prop := xs.length = 32 ∧ ∀ i : Nat,i < 32 → ∃ z : Int,xs[i]? = some (.int .u32 z) ∧ 0 ≤ z ∧ z < 4294967296
def memH (w : World) (cM : Nat) (f : Nat → Int) : Prop := w.heap[cM]? = some (.cells (memC f).toArray 156 (0,0))
def SS (w : World) (h cf cM : Nat) (xs : List Value) (pc : Int) (F : Fs) (f : Nat → Int) : Prop :=
 HH w h cf (.pointer (some ⟨cM,0,none⟩)) xs pc ∧ FX w cf F ∧ memH w cM f ∧ Rg xs ∧ (0 ≤ pc ∧ pc < 4294967296) ∧ (0 ≤ F.tv ∧ F.tv < 4294967296) ∧ tabOk w ∧ (h ≠ 0 ∧ cf ≠ 0 ∧ cM ≠ 0) ∧ (h ≠ cf ∧ h ≠ cM ∧ cf ≠ cM)
def Mv (h cf cM n : Nat) : Nat → Prop := fun k => k = h ∨ k = cf ∨ k = cM ∨ n ≤ k
theorem SS.upd {w w' : World} {h cf cM : Nat} {xs : List Value} {pc : Int} {F : Fs} {f : Nat → Int} {S : Nat → Prop} (k : SS w h cf cM xs pc F f) (u : Upd S w w') (h1 : ¬ S h) (h2 : ¬ S cf) (h3 : ¬ S cM) (h4 : ¬ S 0) : SS w' h cf cM xs pc F f :=
 ⟨k.1.upd u h1,k.2.1.upd u h2,u.heap k.2.2.1 h3,k.2.2.2.1,k.2.2.2.2.1,k.2.2.2.2.2.1,k.2.2.2.2.2.2.1.upd u h4,k.2.2.2.2.2.2.2⟩
theorem SS.lts {w : World} {h cf cM : Nat} {xs : List Value} {pc : Int} {F : Fs} {f : Nat → Int} (k : SS w h cf cM xs pc F f) : h < w.heap.size ∧ cf < w.heap.size ∧ cM < w.heap.size ∧ 0 < w.heap.size := ⟨k.1.lt,k.2.1.lt,lt_of_block k.2.2.1,k.2.2.2.2.2.2.1.lt⟩
theorem SS.hp {w wq w0 : World} {H : List Blk} {h cf cM : Nat} {xs : List Value} {pc : Int} {F : Fs} {f : Nat → Int} (k : SS w h cf cM xs pc F f) (hq : Hp w H wq) (hw : h < w0.heap.size ∧ cf < w0.heap.size ∧ cM < w0.heap.size ∧ 0 < w0.heap.size) (hH : ∀ x ∈ H,w0.heap.size ≤ x.b) : SS wq h cf cM xs pc F f := by
 have off : ∀ k,k < w0.heap.size → ¬ ¬ Off H k := fun k hk y => y (Off.of fun x hx e => by have := hH x hx;omega)
 exact k.upd hq.upd (off _ hw.1) (off _ hw.2.1) (off _ hw.2.2.1) (off _ hw.2.2.2)
theorem SS.reg {w : World} {h cf cM : Nat} {xs : List Value} {pc : Int} {F : Fs} {f : Nat → Int} (k : SS w h cf cM xs pc F f) {r : Int} (hr : 0 ≤ r ∧ r < 32) : ∃ z : Int,w.cell? ⟨h,0 + r.toNat * 1,none⟩ = some (.int .u32 z) ∧ 0 ≤ z ∧ z < 4294967296 := by
 obtain ⟨z,hz,hz2⟩ := k.2.2.2.1.2 r.toNat ky
 refine ⟨z,cell_of k.1.2 ?_,hz2⟩
 rw [Nat.zero_add,Nat.mul_one,List.getElem?_append_left (by have := k.1.1;omega)]
 exact hz
theorem Wl.callS {N : Nat} {ops : Array Oper} {rest : List Oper} {Γ : Env} {Q : Exit → Act → World → Prop} {d : Nat} {ty : TypeId} {pos : String} {af : Array Edge} {f : FuncId} [Ent Tryz.prog f] {xs : Array Operand} {vs : List Value} {ts : Array TypeId} {w0 wb : World} {H : List Blk}
  {h cf cM : Nat} {rs : List Value} {pc : Int} {F : Fs} {fm : Nat → Int} {R : Value → World → Prop} (hd : Nat.blt d N = true) (hx : Evs Γ xs.toList vs)
  (hS : SS wb h cf cM rs pc F fm) (hu : Upd (Mv h cf cM w0.heap.size) w0 wb) (hw : h < w0.heap.size ∧ cf < w0.heap.size ∧ cM < w0.heap.size ∧ 0 < w0.heap.size) (hH : ∀ x ∈ H,w0.heap.size ≤ x.b)
  (hc : ∀ wq,SS wq h cf cM rs pc F fm → Calls Tryz.prog f vs.toArray wq fun e w' => ∃ v,e = .returned v ∧ R v w' ∧ Upd (fun k => k = h ∨ k = cf ∨ k = cM) wq w')
  (hk : ∀ v w1,R v w1 → Upd (Mv h cf cM w0.heap.size) w0 w1 → Wl rest Tryz.prog .seq ops N ((d,v) :: Γ) (Hp w1 H) Q) :
  Wl (⟨some d,.call { callee := .value (.func f),args := xs,argTypes := ts },ty,pos,af,none⟩ :: rest) Tryz.prog .seq ops N Γ (Hp wb H) Q := by
 refine Wl.callC hd hx fun wq hq => (hc wq (hS.hp hq hw hH)).mono ?_
 rintro e w1 ⟨v,rfl,hR,u1⟩
 have s1 := hu.size
 refine ⟨v,Hp w1 H,rfl,⟨Upd.refl _ _,hq.own.upd u1 fun y hy e => ?_,hq.apart⟩,hk v w1 hR ((hu.comp (T := Mv h cf cM w0.heap.size) hq.upd fun k hk hs => hs.elim id fun y => ?_).comp u1 fun k hk hs => hs.elim id fun y => ?_)⟩
 ·have := hH y hy
  omega
 ·exact Classical.byContradiction fun hn => y (Off.of fun x hx e => hn (.inr (.inr (.inr (by have := hH x hx;omega)))))
 ·rcases y with e | e | e
  ·exact .inl e
  ·exact .inr (.inl e)
  ·exact .inr (.inr (.inl e))
def TrapP (w : World) (h cf cM : Nat) (xs : List Value) (pc : Int) (F : Fs) (f : Nat → Int) (c1 tl1 : Int) : Prop :=
 ∃ s' : Int,(0 ≤ s' ∧ s' < 4294967296) ∧ tb s' 11 = false ∧ tb s' 12 = false ∧ SS w h cf cM xs F.tv { F with md := 3,st := s',ep := pc - pc % 4,ca := c1,tl := tl1,cy := IntKind.u64.wrap (F.cy + 1) } f
def trc (wd : Int) (tr : Bool) (c1 tl1 at_ wi : Int) (st : Bool) : Value := .agg #[.int .u32 wd,.bool tr,.int .u32 c1,.int .u32 tl1,.int .u32 at_,.int .i64 wi,.bool st]
theorem htrapS (h cf cM : Nat) (xs : List Value) (pc : Int) (F : Fs) (f : Nat → Int) (wd ca tl at_ wi ca0 tl0 : Int) (tr st0 : Bool) (w : World) (hS : SS w h cf cM xs pc F f) (hmd : F.md = 0) :
  Calls Tryz.prog 113 #[.pointer (some ⟨h,0,none⟩),.agg #[.int .u32 wd,.bool tr,.int .u32 ca0,.int .u32 tl0,.int .u32 at_,.int .i64 wi,.bool st0],.int .u32 ca,.int .u32 tl] w
   fun e w' => ∃ v,e = .returned v ∧ (v = trc wd true ca tl at_ wi st0 ∧ TrapP w' h cf cM xs pc F f ca tl) ∧ Upd (fun k => k = h ∨ k = cf ∨ k = cM) w w' := by
 have hS0 := hS
 obtain ⟨hH,hF,hM,hR,hpc,htv,hT,⟨z1,z2,z3⟩,hne,hne2,hne3⟩ := hS
 have hlc := hF.lt
 have hlh := hH.lt
 have hlm := lt_of_block hM
 obtain ⟨hl,hh⟩ := hH
 refine enter (args := [_,_,_,_]) (Γ := [(0,_),(1,_),(2,_),(3,_)]) Tryz.func113 Tryz.ntmps113 rfl odq (.cons rfl (.cons rfl (.cons rfl (.cons rfl .nil)))) ?_
 refine St.cls (C' := Hp w [⟨h,xs ++ [.int .u32 pc,.pointer (some ⟨cf,0,none⟩),.pointer (some ⟨cM,0,none⟩)],133⟩]) (fun _ h' => Hp.open h' hh) ?_
 repeat' first | (apply Wl.boxA;exact rfl;exact rfl;intro c hc ho) | (apply Wl.alloc;exact rfl;intro c hc ho) | apply Wl.nil | apply St.seq | apply St.region | apply Gt.next
 rename_i cT hcT hoT
 have hF33 : ∀ (w' : World) (pc' : Int),w'.heap[h]? = some (.cells (xs ++ [Value.int .u32 pc',Value.pointer (some ⟨cf,0,none⟩),Value.pointer (some ⟨cM,0,none⟩)]).toArray 133 (0,0)) → w'.cell? ⟨h,33,none⟩ = some (.pointer (some ⟨cf,0,none⟩)) := fun w' pc' h' =>
  cell_of h' (by rw [show (33 : Nat) = xs.length + 1 by omega,List.getElem?_append_right ky,Nat.add_sub_cancel_left];rfl)
 have hTc : cT < c ∨ c < cT := by have := ho.1;simp only at this;omega
 refine St.tree (fun w' => w'.cell? ⟨h,33,none⟩ = some (.pointer (some ⟨cf,0,none⟩))) mixed (fun _ h' => ⟨Hp.drew h',hF33 _ pc ((Hp.drew h').own.at (.tail _ (.tail _ (.head _))))⟩) ?_
 refine Mt.pm 0 ?_
 refine Mt.pm 1 ?_
 refine Mt.pn 2 ?_
 refine Mt.pz 3 ?_
 refine Mt.pu 4 ?_
 apply Wl.loadF;exact rfl;exact rfl;(intro w' h';exact h');apply Wl.nilB
 refine Mt.pm 5 ?_
 refine Mt.pn 6 ?_
 refine Mt.pz 7 ?_
 refine Mt.pm 9 ?_
 refine Mt.pm 10 ?_
 refine Mt.e1 8 ?_
 repeat' first | (apply Wl.loadHi 0;exact rfl;exact rfl;exact ke;exact hl;exact rfl;exact rfl) | apply Wl.nil
 refine Mt.backE (fun _ h' => hF33 _ pc (h'.own.at (.tail _ (.tail _ (.head _))))) ?_
 refine Mt.e1 11 ?_
 apply Wl.callC
 ·exact rfl
 ·exact ke
 intro wq hq
 have hFq := hF.upd hq.upd fun y => y ⟨by simp only;omega,by simp only;omega,fun e => hne e,trivial⟩
 refine (ftrapX cf _ _ _ _ _ _ _ _ _ _ wq pc ca tl hpc (.inl hmd) hFq.2.2).mono ?_
 rintro e w1 ⟨rfl,s',hp1,hs',hb3,hb7,hb11,hb12⟩
 rw [hmd] at hb11 hb12
 have f1 : FX w1 cf { F with md := 3,st := s',ep := pc - pc % 4,ca := ca,tl := tl } := ⟨hF.1,hF.2.1,hp1.own.at (.head _)⟩
 have u1 := Hp.turned hp1
 refine ⟨_,_,rfl,Hp.rest hq u1 kb,?_⟩
 have hsz := hq.upd.size
 have hqu := hq.upd
 have hfz := f1.lt
 clear hq hp1
 apply Wl.nil
 refine Mt.backE (fun _ h' => hF33 _ pc (h'.own.at (.tail _ (.tail _ (.head _))))) ?_
 refine Mt.pn 12 ?_
 refine Mt.pz 13 ?_
 refine Mt.e1 14 ?_
 apply Wl.storeHi 0
 ·exact rfl
 ·exact rfl
 ·exact rfl
 ·exact ke
 ·exact hl
 ·exact rfl
 ·exact kx
 apply Wl.nil
 refine Mt.backE (fun _ h' => hF33 _ F.tv (h'.own.at (.tail _ (.tail _ (.head _))))) ?_
 refine Mt.toGt kg ?_
 repeat' first | (apply Wl.loadHi 1;exact rfl;exact rfl;exact ke;exact hl;exact rfl;exact rfl) | refine Wl.move rfl rfl ?_ | refine Wl.nilCheck rfl rfl ?_ | refine Wl.fieldAddrZ rfl rfl ?_ | (apply Wl.store;exact rfl;exact rfl;exact rfl;exact ke;exact kx) | apply Wl.nil | apply St.seq | apply St.region | apply Gt.next
 apply Wl.callC
 ·exact rfl
 ·exact ke
 intro wq2 hq2
 refine (ftickX cf false _ wq2 (f1.upd hq2.upd fun y => y ⟨by simp only;omega,by simp only;omega,fun e => hne e,trivial⟩)).mono ?_
 rintro e w2 ⟨rfl,f2,u2⟩
 refine ⟨_,_,rfl,Hp.rest hq2 u2 kb,?_⟩
 have hsz2 := hq2.upd.size
 have hsz1 := u1.size
 have hqu2 := hq2.upd
 have hfz2 := f2.lt
 clear hq2
 repeat' first | (apply Gt.outC';exact rfl;infer_instance;exact rfl;exact ke;exact ke;intro w' hp) | (apply Wl.storeA;exact rfl;exact rfl;exact rfl;exact rfl;exact ke;exact kf) | (apply Wl.loadAH;exact rfl;exact rfl;exact ke;exact ke) | apply Wl.nil | apply St.seq | apply St.region | apply St.ret | apply Gt.next
 have key : ∀ (a b : World) (x1 x2 x3 : List Value) (t1 t2 t3 : Nat),w.heap.size ≤ a.heap.size → Upd (fun k => ¬ Off [⟨c,x1,t1⟩,⟨cT,x2,t2⟩,⟨h,x3,t3⟩] k) a b → Upd (fun k => k = h ∨ w.heap.size ≤ k) a b := fun a b x1 x2 x3 t1 t2 t3 _ u =>
  u.mono fun k _ hs => Classical.byContradiction fun z => hs ⟨fun e => z (.inr qn),fun e => z (.inr qn),fun e => z (.inl e.symm),trivial⟩
 have key2 : Upd (fun k => k = h ∨ k = cf ∨ w.heap.size ≤ k) w w' :=
  ((((key _ _ _ _ _ _ _ _ (Nat.le_refl _) hqu).mono fun k _ hs => hs.elim .inl fun e => .inr (.inr e)).trans (u1.mono fun k _ e => .inr (.inl e))).trans (((key _ _ _ _ _ _ _ _ ky hqu2).mono fun k _ hs => hs.elim .inl fun e => .inr (.inr e)).trans (u2.mono fun k _ e => .inr (.inl e)))).trans
   ((key _ _ _ _ _ _ _ _ (by have := u2.size;omega) hp.upd).mono fun k _ hs => hs.elim .inl fun e => .inr (.inr e))
 refine ⟨_,rfl,⟨rfl,s',hs',hb11,hb12,⟨hl,hp.own.2.2.1⟩,f2.upd hp.upd fun y => y ⟨by simp only;omega,by simp only;omega,fun e => hne e,trivial⟩,key2.heap hM ky,hR,htv,htv,hT.upd key2 ky,⟨z1,z2,z3⟩,hne,hne2,hne3⟩,key2.mono fun k hk hs => by rcases hs with e | e | e;exact .inl e;exact .inr (.inl e);omega⟩
theorem hdoneS (h cf cM : Nat) (xs : List Value) (pc pc' : Int) (F : Fs) (f : Nat → Int) (wd ca tl at_ wi : Int) (tr st0 : Bool) (w : World) (hS : SS w h cf cM xs pc F f) (hpc' : 0 ≤ pc' ∧ pc' < 4294967296) :
  Calls Tryz.prog 157 #[.pointer (some ⟨h,0,none⟩),.agg #[.int .u32 wd,.bool tr,.int .u32 ca,.int .u32 tl,.int .u32 at_,.int .i64 wi,.bool st0],.int .u32 pc'] w
   fun e w' => ∃ v,e = .returned v ∧ (v = trc wd tr ca tl at_ wi st0 ∧ SS w' h cf cM xs pc' (F.tick true) f) ∧ Upd (fun k => k = h ∨ k = cf ∨ k = cM) w w' := by
 obtain ⟨hH,hF,hM,hR,hpc,htv,hT,⟨z1,z2,z3⟩,hne,hne2,hne3⟩ := hS
 have hlc := hF.lt
 have hlh := hH.lt
 have hlm := lt_of_block hM
 obtain ⟨hl,hh⟩ := hH
 refine enter (args := [_,_,_]) (Γ := [(0,_),(1,_),(2,_)]) Tryz.func157 Tryz.ntmps157 rfl odq (.cons rfl (.cons rfl (.cons rfl .nil))) ?_
 refine St.cls (C' := Hp w [⟨h,xs ++ [.int .u32 pc,.pointer (some ⟨cf,0,none⟩),.pointer (some ⟨cM,0,none⟩)],133⟩]) (fun _ h' => Hp.open h' hh) ?_
 repeat' first | (apply Wl.loadHi 1;exact rfl;exact rfl;exact ke;exact hl;exact rfl;exact rfl) | (apply Wl.storeHi 0;exact rfl;exact rfl;exact rfl;exact ke;exact hl;exact rfl;exact kx) | refine Wl.move rfl rfl ?_ | refine Wl.nilCheck rfl rfl ?_ | refine Wl.fieldAddrZ rfl rfl ?_ | (apply Wl.boxA;exact rfl;exact rfl;intro c hc ho) | (apply Wl.alloc;exact rfl;intro c hc ho) | apply Wl.nil | apply St.seq | apply St.region | apply Gt.next
 apply Wl.callC
 ·exact rfl
 ·exact ke
 intro wq hq
 refine (ftickX cf true F wq (hF.upd hq.upd fun y => y (by repeat (first | exact trivial | exact fun e => hne e | refine ⟨by first | (simp only;omega) | exact fun e => hne e,?_⟩)))).mono ?_
 rintro e w1 ⟨rfl,f1,u1⟩
 refine ⟨_,_,rfl,Hp.rest hq u1 kb,?_⟩
 have hsz := hq.upd.size
 have hsz1 := u1.size
 have hqu := hq.upd
 have hfz := f1.lt
 clear hq
 repeat' first | (apply Gt.outC';exact rfl;infer_instance;exact rfl;exact ke;exact ke;intro w' hp) | (apply Wl.storeA;exact rfl;exact rfl;exact rfl;exact rfl;exact ke;exact kf) | (apply Wl.loadAH;exact rfl;exact rfl;exact ke;exact ke) | apply Wl.nil | apply St.seq | apply St.region | apply St.ret | apply Gt.next
 have fin : ∀ (a b : World) (H : List Blk),w.heap.size ≤ a.heap.size → (∀ k,k ≠ h → k < w.heap.size → Off H k) → Upd (fun k => ¬ Off H k) a b → Upd (fun k => k = h ∨ w.heap.size ≤ k) a b := fun a b H _ hO u => u.mono fun k _ hs => Classical.byContradiction fun z => hs (hO k (fun e => z (.inl e)) ky)
 have key2 : Upd (fun k => k = h ∨ k = cf ∨ w.heap.size ≤ k) w w' := by
  refine (((fin _ _ _ (Nat.le_refl _) ?_ hqu).mono fun k _ hs => hs.elim .inl fun e => .inr (.inr e)).trans (u1.mono fun k _ e => .inr (.inl e))).trans ((fin _ _ _ ky ?_ hp.upd).mono fun k _ hs => hs.elim .inl fun e => .inr (.inr e))
  all_goals
   intro k h1 h2
   repeat (first | exact trivial | refine ⟨by first | (simp only;omega) | exact fun e => h1 e.symm,?_⟩)
 refine ⟨_,rfl,⟨rfl,⟨hl,own_at hp.own kw⟩,f1.upd hp.upd fun y => y (by repeat (first | exact trivial | refine ⟨by first | (simp only;omega) | exact fun e => hne e,?_⟩)),key2.heap hM ky,hR,hpc',htv,hT.upd key2 ky,⟨z1,z2,z3⟩,hne,hne2,hne3⟩,key2.mono fun k hk hs => by rcases hs with e | e | e;exact .inl e;exact .inr (.inl e);omega⟩
def setR (xs : List Value) (r x : Int) : List Value := if r = 0 then xs else xs.set r.toNat (.int .u32 x)
theorem Rg.set {xs : List Value} {r x : Int} (h : Rg xs) (hx : 0 ≤ x ∧ x < 4294967296) : Rg (setR xs r x) := by
 unfold setR
 split
 ·exact h
 ·refine ⟨by rw [List.length_set];exact h.1,fun i hi => ?_⟩
  by_cases e : r.toNat = i
  ·refine ⟨x,?_,hx⟩
   rw [e,List.getElem?_set_self (by rw [h.1];exact hi)]
  ·obtain ⟨z,hz,hz2⟩ := h.2 i hi
   exact ⟨z,by rw [List.getElem?_set_ne e];exact hz,hz2⟩
theorem hsetS (h cf cM : Nat) (xs : List Value) (pc r x : Int) (F : Fs) (f : Nat → Int) (w : World) (hS : SS w h cf cM xs pc F f) (hr : 0 ≤ r ∧ r < 32) (hx : 0 ≤ x ∧ x < 4294967296) :
  Calls Tryz.prog 150 #[.pointer (some ⟨h,0,none⟩),.int .i64 r,.int .u32 x] w
   fun e w' => ∃ v,e = .returned v ∧ (v = .tuple #[] ∧ SS w' h cf cM (setR xs r x) pc F f) ∧ Upd (fun k => k = h ∨ k = cf ∨ k = cM) w w' := by
 obtain ⟨hH,hF,hM,hR,hpc,htv,hT,⟨z1,z2,z3⟩,hne,hne2,hne3⟩ := hS
 have hlc := hF.lt
 have hlh := hH.lt
 have hlm := lt_of_block hM
 obtain ⟨hl,hh⟩ := hH
 have hrl : r.toNat < xs.length := by omega
 have hrl' : 0 + r.toNat * 1 = r.toNat := by omega
 refine enter (args := [_,_,_]) (Γ := [(0,_),(1,_),(2,_)]) Tryz.func150 Tryz.ntmps150 rfl odq (.cons rfl (.cons rfl (.cons rfl .nil))) ?_
 refine St.cls (C' := Hp w [⟨h,xs ++ [.int .u32 pc,.pointer (some ⟨cf,0,none⟩),.pointer (some ⟨cM,0,none⟩)],133⟩]) (fun _ h' => Hp.open h' hh) ?_
 have hls : LSet (xs ++ [Value.int .u32 pc,.pointer (some ⟨cf,0,none⟩),.pointer (some ⟨cM,0,none⟩)]) (0 + r.toNat * 1) (.int .u32 x) (xs.set r.toNat (.int .u32 x) ++ [.int .u32 pc,.pointer (some ⟨cf,0,none⟩),.pointer (some ⟨cM,0,none⟩)]) := by rw [hrl'];exact LSet.left hrl
 have hset := hR.set (r := r) hx
 unfold setR at hset ⊢
 by_cases h0 : r = 0
 ·have hd : decide (r ≠ 0) = false := decide_eq_false (fun h => h h0)
  repeat' first | refine Wl.move rfl rfl ?_ | (apply Wl.neqIs;exact rfl;exact rfl;exact rfl;exact kv) | apply Wl.nil | apply St.seq | apply St.region | (apply St.condF;exact rfl;exact ka) | apply St.skip | apply Gt.next | (apply Gt.out0n;exact rfl;intro w' hp)
  have u := Hp.turned hp
  refine ⟨_,rfl,⟨rfl,?_⟩,u.mono fun k _ e => .inl e⟩
  rw [if_pos h0]
  exact ⟨⟨hl,hp.own.at (.head _)⟩,hF.upd u fun e => hne e.symm,u.heap hM fun e => hne2 e.symm,hR,hpc,htv,hT.upd u fun e => z1 e.symm,⟨z1,z2,z3⟩,hne,hne2,hne3⟩
 ·have hd : decide (r ≠ 0) = true := decide_eq_true h0
  rw [if_neg h0] at hset
  repeat' first | (apply Wl.store;exact rfl;exact rfl;exact rfl;exact ke;exact hls) | refine Wl.move rfl rfl ?_ | refine Wl.nilCheck rfl rfl ?_ | refine Wl.fieldAddr0 rfl rfl ?_ | refine Wl.neq rfl rfl rfl ?_ | (refine Wl.indexArr rfl rfl rfl ?_ ?_;constructor <;> omega) | apply Wl.nil | apply St.seq | apply St.region | (apply St.condT;exact rfl;exact ka) | apply Gt.next | (apply Gt.out0n;exact rfl;intro w' hp)
  have u := Hp.turned hp
  refine ⟨_,rfl,⟨rfl,?_⟩,u.mono fun k _ e => .inl e⟩
  rw [if_neg h0]
  exact ⟨⟨hset.1,hp.own.at (.head _)⟩,hF.upd u fun e => hne e.symm,u.heap hM fun e => hne2 e.symm,hset,hpc,htv,hT.upd u fun e => z1 e.symm,⟨z1,z2,z3⟩,hne,hne2,hne3⟩
end Go.Proofs.YtabbklpalbikdaaGreatDoor
end
section
namespace Go.Pt
open Go.RowKit
def waits (o : Oper) (j : Nat) : Bool := o.after.toList.any fun e => Nat.beq e.on j && Region.binds .any e
def chainB (l : List Oper) (m : Nat) : Bool :=
 Nat.blt m l.length &&
 ((List.range m).all fun i => (List.range (m + 1)).any fun j => Nat.blt i j && (match l[j]? with | some o => waits o i | none => false)) &&
 ((List.range l.length).all fun i => Nat.ble i m || (match l[i]? with | some o => waits o (i - 1) | none => false)) &&
 ((List.range l.length).all fun i => match l[i]? with | some o => o.after.toList.all (fun e => !(Region.binds .any e) || Nat.blt e.on i) | none => true)
theorem waits_out {o : Oper} {j : Nat} (h : waits o j = true) : ∃ e ∈ o.after.toList,e.on = j ∧ Region.binds .any e = true := by
 obtain ⟨e,h1,h2⟩ := List.any_eq_true.1 h
 rw [Bool.and_eq_true] at h2
 exact ⟨e,h1,Nat.eq_of_beq_eq_true h2.1,h2.2⟩
structure Chain (l : List Oper) (m : Nat) : Prop where
 lt : m < l.length
 pre : ∀ i,i < m → ∃ (j : Nat) (o : Oper),i < j ∧ j ≤ m ∧ l[j]? = some o ∧ ∃ e ∈ o.after.toList,e.on = i ∧ Region.binds .any e = true
 next : ∀ (i : Nat) (o : Oper),m < i → l[i]? = some o → ∃ e ∈ o.after.toList,e.on = i - 1 ∧ Region.binds .any e = true
 back : ∀ (i : Nat) (o : Oper),l[i]? = some o → ∀ e ∈ o.after.toList,Region.binds .any e = true → e.on < i
theorem chainB_out {l : List Oper} {m : Nat} (h : chainB l m = true) : Chain l m := by
 unfold chainB at h
 simp only [Bool.and_eq_true] at h
 obtain ⟨⟨⟨h0,h1⟩,h2⟩,h3⟩ := h
 refine ⟨Nat.le_of_ble_eq_true h0,fun i hi => ?_,fun i o hi ho => ?_,fun i o ho e he hb => ?_⟩
 ·have := List.all_eq_true.1 h1 i (List.mem_range.2 hi)
  obtain ⟨j,hj,hj2⟩ := List.any_eq_true.1 this
  rw [Bool.and_eq_true] at hj2
  have hjm := List.mem_range.1 hj
  cases ho : l[j]? with
  | none => rw [ho] at hj2;cases hj2.2
  | some o =>
   rw [ho] at hj2
   exact ⟨j,o,Nat.le_of_ble_eq_true hj2.1,by omega,ho,waits_out hj2.2⟩
 ·have hil := (List.getElem?_eq_some_iff.1 ho).1
  have := List.all_eq_true.1 h2 i (List.mem_range.2 hil)
  rw [ho,Bool.or_eq_true] at this
  rcases this with h | h
  ·have := Nat.le_of_ble_eq_true h;omega
  ·exact waits_out h
 ·have hil := (List.getElem?_eq_some_iff.1 ho).1
  have := List.all_eq_true.1 h3 i (List.mem_range.2 hil)
  rw [ho] at this
  have := List.all_eq_true.1 this e he
  rw [hb,Bool.not_true,Bool.false_or] at this
  exact Nat.le_of_ble_eq_true this
theorem getD_tf {x : Array Bool} {i : Nat} (h : i < x.size) : x.getD i true = x.getD i false := by
 simp [Array.getD_eq_getD_getElem?,h]
theorem ready_iff {l : List Oper} {listed : Array Bool} {i : Nat} {o : Oper} (ho : l[i]? = some o) : i ∈ Region.ready .any l.toArray listed ↔ listed.getD i true = false ∧ ∀ e ∈ o.after.toList,Region.binds .any e = true → listed.getD e.on false = true := by
 have hil := (List.getElem?_eq_some_iff.1 ho).1
 have hoa : l.toArray[i]? = some o := by simpa using ho
 unfold Region.ready
 rw [List.mem_filter]
 simp only [List.size_toArray,List.mem_range,hoa,Option.map_some,Option.getD_some,Bool.and_eq_true,Bool.not_eq_true',Array.all_eq_true',Bool.or_eq_true]
 constructor
 ·rintro ⟨_,h1,h2⟩
  exact ⟨h1,fun e he hb => (h2 e (by simpa using he)).elim (fun y => by rw [hb] at y;cases y) id⟩
 ·rintro ⟨h1,h2⟩
  refine ⟨hil,h1,fun e he => ?_⟩
  cases hb : Region.binds .any e with
  | false => exact .inl rfl
  | true => exact .inr (h2 e (by simpa using he) hb)
theorem ready_lt {l : List Oper} {listed : Array Bool} {i : Nat} (h : i ∈ Region.ready .any l.toArray listed) : i < l.length := by
 unfold Region.ready at h
 rw [List.mem_filter] at h
 simpa using h.1
theorem tail_run {P : Program} {l : List Oper} {m : Nat} {Q : Exit → Act → World → Prop} (hch : Chain l m) : ∀ (rest : List Oper) (k : Nat),l.drop k = rest → m ≤ k → ∀ n (listed : Array Bool) a w,listed.size = l.length → (∀ j,j < k → j < l.length → listed.getD j true = true) →
  (∀ j,k ≤ j → j < l.length → listed.getD j true = false) → n = l.length - k → wpList P l.toArray Q rest a w → wpAny P .any l.toArray Q n listed a w := by
 intro rest
 induction rest with
 | nil =>
  intro k hk hmk n listed a w hsz h1 h2 hn h
  have hl : l.length ≤ k := by simpa using hk
  have hr : Region.ready .any l.toArray listed = [] := by
   rw [List.eq_nil_iff_forall_not_mem]
   intro i hi
   have hil := ready_lt hi
   have := ((ready_iff (List.getElem?_eq_getElem hil)).1 hi).1
   rw [h1 i ky hil] at this
   cases this
  have hn0 : n = 0 := by omega
  subst hn0
  exact ⟨hr,h⟩
 | cons o rest ih =>
  intro k hk hmk n listed a w hsz h1 h2 hn h
  have hkl : k < l.length := by
   rcases Nat.lt_or_ge k l.length with h | h
   ·exact h
   ·rw [List.drop_eq_nil_of_le h] at hk;cases hk
  have ho : l[k]? = some o := by
   have := List.getElem?_drop (xs := l) (i := k) (j := 0)
   rw [hk] at this
   simpa using this.symm
  have hrk : k ∈ Region.ready .any l.toArray listed := (ready_iff ho).2 ⟨h2 k (Nat.le_refl _) hkl,fun e he hb => by
   have hek := hch.back k o ho e he hb
   rw [← getD_tf ky]
   exact h1 e.on hek ky⟩
  have hn' : n = (l.length - (k + 1)) + 1 := by omega
  subst hn'
  refine ⟨fun hr => (by rw [hr] at hrk;cases hrk),fun i hi => ?_⟩
  have hil := ready_lt hi
  have hio := (ready_iff (List.getElem?_eq_getElem hil)).1 hi
  have hik : i = k := by
   rcases Nat.lt_trichotomy i k with h | h | h
   ·rw [h1 i h hil] at hio;cases hio.1
   ·exact h
   ·obtain ⟨e,he,he1,he2⟩ := hch.next i _ ky (List.getElem?_eq_getElem hil)
    have := hio.2 e he he2
    rw [← getD_tf ky,he1,h2 (i - 1) ky ky] at this
    cases this
  subst hik
  have hoa : l.toArray[i]? = some o := by simpa using ho
  have hK : ∀ a' w',wpList P l.toArray Q rest a' w' → wpAny P .any l.toArray Q (l.length - (i + 1)) (listed.setIfInBounds i true) a' w' := fun a' w' h' => by
   refine ih (i + 1) ?_ ky _ _ a' w' (by simp [hsz]) (fun j hj hjl => ?_) (fun j hj hjl => ?_) rfl h'
   ·rw [← List.drop_drop,hk];rfl
   ·by_cases e : i = j
    ·subst e;simp [Array.getD_eq_getD_getElem?,hsz,hil]
    ·rw [getD_set e];exact h1 j ky hjl
   ·rw [getD_set ky];exact h2 j ky hjl
  unfold wpOp
  simp only [hoa]
  simp only [wpList] at h
  split
  ·rename_i hw
   rw [if_pos hw] at h
   exact h.imp (fun h => Oper.wp_mono hK h) id
  ·rename_i hw
   rw [if_neg hw] at h
   exact hK _ _ h
end Go.Pt
end
section
namespace Go.Pt
open Go.RowKit
inductive Kn
 | v (x : Value)
 | b (t : TypeId) (cs : List Value)
def DepX (l : List Oper) (ks : List Kn) (K : Env → Prop) : List Edge → Env → Prop
 | [],Γ => K Γ
 | e :: es,Γ => if Region.binds .any e then (match ks[e.on]? with
  | some (.v x) => DepX l ks K es ((dstAt l e.on,x) :: Γ)
  | _ => DepX l ks K es Γ) else DepX l ks K es Γ
def PostX (N d : Nat) (x : Value) (D : World → Prop) : Exit → Act → World → Prop := fun e a w => e = .normal ∧ Fr N a [(d,x)] ∧ D w
def PostB (N d : Nat) (t : TypeId) (cs : List Value) (w0 : World) (H : List Blk) : Exit → Act → World → Prop := fun e a w => e = .normal ∧ ∃ c,w0.heap.size ≤ c ∧ Off H c ∧ Fr N a [(d,.pointer (some ⟨c,0,none⟩))] ∧ Hp w0 (⟨c,cs,t⟩ :: H) w
def NewX (w0 : World) (X : List Blk) : Prop := ∀ y ∈ X,w0.heap.size ≤ y.b
inductive OpsX (P : Program) (l : List Oper) (N : Nat) (Γ : Env) (w0 : World) (H : List Blk) (all : List Kn) : List Oper → List Kn → Prop
 | nil : OpsX P l N Γ w0 H all [] []
 | v {o : Oper} {rest : List Oper} {x : Value} {tl : List Kn} (h : ∀ X,NewX w0 X → DepX l all (fun Γ' => Wl [o] P .seq l.toArray N Γ' (Hp w0 (H ++ X)) (PostX N (dstO o) x (Hp w0 (H ++ X)))) o.after.toList Γ) (hs : OpsX P l N Γ w0 H all rest tl) : OpsX P l N Γ w0 H all (o :: rest) (.v x :: tl)
 | b {d t : Nat} {ty : TypeId} {pos : String} {af : Array Edge} {rest : List Oper} {z : Value} {tl : List Kn} [hz : TyZ P t z] (hd : Nat.blt d N = true) (hs : OpsX P l N Γ w0 H all rest tl) : OpsX P l N Γ w0 H all (⟨some d,.alloc t,ty,pos,af,none⟩ :: rest) (.b t z.cells.toList :: tl)
def keepX (sel : List Nat) (tail : List Oper) (i : Nat) : Bool := (sel.any (Nat.beq i)) || tail.any fun o => o.after.toList.any fun e => Nat.beq e.on i && (match e.ground with | .data => true | _ => false)
def EndX (kp : Nat → Bool) (w0 : World) (H : List Blk) (K : Env → List Blk → Prop) : List Oper → List Kn → Nat → Env → List Blk → Prop
 | [],_,_,Γ,B => K Γ B
 | _ :: _,[],_,Γ,B => K Γ B
 | o :: os,.v x :: ks,i,Γ,B => EndX kp w0 H K os ks (i + 1) (bif kp i then (dstO o,x) :: Γ else Γ) B
 | o :: os,.b t cs :: ks,i,Γ,B => ∀ c,w0.heap.size ≤ c → Off (B ++ H) c → EndX kp w0 H K os ks (i + 1) ((dstO o,.pointer (some ⟨c,0,none⟩)) :: Γ) (⟨c,cs,t⟩ :: B)
theorem apart_append {H X : List Blk} (h : Apart H) (hx : ∀ x ∈ X,Off H x.b) (hX : Apart X) : Apart (H ++ X) := by
 induction H with
 | nil => exact hX
 | cons y r ih => exact ⟨Off.of fun x hm => by
   rcases List.mem_append.1 hm with hm | hm
   ·exact h.1.at hm
   ·exact fun e => (hx x hm).1 e.symm,ih h.2 fun x hm => (hx x hm).2⟩
theorem off_append {H X : List Blk} {c : Nat} (h : Off H c) (hX : Off X c) : Off (H ++ X) c := Off.of fun x hm => (List.mem_append.1 hm).elim (fun h1 => h.at h1) fun h1 => hX.at h1
theorem off_left {H X : List Blk} {c : Nat} (h : Off (H ++ X) c) : Off H c := Off.of fun _ hm => h.at (List.mem_append_left _ hm)
theorem off_right {H X : List Blk} {c : Nat} (h : Off (H ++ X) c) : Off X c := Off.of fun _ hm => h.at (List.mem_append_right _ hm)
theorem hp_left {w0 w : World} {H X : List Blk} (h : Hp w0 (H ++ X) w) (hX : NewX w0 X) : Hp w0 H w := by
 refine ⟨h.upd.mono fun k hk hn ho => hn (off_append ho (Off.of fun x hm e => by have := hX x hm;omega)),Own.of fun x hm => h.own.at (List.mem_append_left _ hm),?_⟩
 have := h.apart
 clear h
 induction H with
 | nil => trivial
 | cons y r ih => exact ⟨off_left this.1,ih this.2⟩
theorem OpsX.out {P : Program} {l : List Oper} {N : Nat} {Γ : Env} {w0 : World} {H : List Blk} {all : List Kn} {l' : List Oper} {tl : List Kn} (h : OpsX P l N Γ w0 H all l' tl) {i : Nat} {o : Oper} (hi : l'[i]? = some o) :
  (∃ x,tl[i]? = some (.v x) ∧ ∀ X,NewX w0 X → DepX l all (fun Γ' => Wl [o] P .seq l.toArray N Γ' (Hp w0 (H ++ X)) (PostX N (dstO o) x (Hp w0 (H ++ X)))) o.after.toList Γ) ∨
  (∃ t cs,tl[i]? = some (.b t cs) ∧ ∀ X,Wl [o] P .seq l.toArray N Γ (Hp w0 (H ++ X)) (PostB N (dstO o) t cs w0 (H ++ X))) := by
 induction h generalizing i with
 | nil => simp at hi
 | @v o' rest x tl h hs ih =>
  cases i with
  | zero => simp only [List.getElem?_cons_zero,Option.some.injEq] at hi;subst hi;exact .inl ⟨x,rfl,h⟩
  | succ i => simpa using ih (i := i) ja
 | @b d t ty pos af rest z tl hz hd hs ih =>
  cases i with
  | zero =>
   simp only [List.getElem?_cons_zero,Option.some.injEq] at hi
   subst hi
   refine .inr ⟨t,z.cells.toList,rfl,fun X => ?_⟩
   apply Wl.alloc hd
   intro c hc ho
   apply Wl.nil
   exact Gt.intro fun a w ha hw => ⟨rfl,c,hc,ho,ha.sub (.cons (by simp [look,dstO]) .nil),hw⟩
  | succ i => simpa using ih (i := i) ja
theorem OpsX.len {P : Program} {l : List Oper} {N : Nat} {Γ : Env} {w0 : World} {H : List Blk} {all : List Kn} {l' : List Oper} {tl : List Kn} (h : OpsX P l N Γ w0 H all l' tl) : tl.length = l'.length := by
 induction h with
 | nil => rfl
 | v _ _ ih => simp [ih]
 | b _ _ ih => simp [ih]
theorem DepX.run {l : List Oper} {ks : List Kn} {K : Env → Prop} {N : Nat} {a : Act} {es : List Edge} {Γ : Env} (h : DepX l ks K es Γ) (ha : Fr N a Γ)
  (hes : ∀ e ∈ es,Region.binds .any e = true → ∀ x,ks[e.on]? = some (.v x) → a.tmps[dstAt l e.on]? = some x) : ∃ Γ',Fr N a Γ' ∧ K Γ' := by
 induction es generalizing Γ with
 | nil => exact ⟨Γ,ha,h⟩
 | cons e es ih =>
  unfold DepX at h
  split at h
  ·rename_i hb
   split at h
   ·rename_i x hx
    exact ih h (ha.cons (hes e qs hb x hx)) fun e he => hes e (by simp [he])
   ·exact ih h ha fun e he => hes e (by simp [he])
  ·exact ih h ha fun e he => hes e (by simp [he])
structure InvX (l : List Oper) (m N : Nat) (Γ : Env) (w0 : World) (H : List Blk) (ks : List Kn) (f : Nat → Nat) (listed : Array Bool) (a : Act) (w : World) : Prop where
 fr : Fr N a Γ
 hp : Hp w0 H w
 val : ∀ i o x,i < m → l[i]? = some o → ks[i]? = some (.v x) → listed.getD i true = true → a.tmps[dstO o]? = some x
 ptr : ∀ i o t cs,i < m → l[i]? = some o → ks[i]? = some (.b t cs) → listed.getD i true = true → a.tmps[dstO o]? = some (.pointer (some ⟨f i,0,none⟩)) ∧ w0.heap.size ≤ f i ∧ Off H (f i) ∧ w.heap[f i]? = some (.cells cs.toArray t (0,0))
 inj : ∀ i j t cs t' cs',i < j → j < m → ks[i]? = some (.b t cs) → ks[j]? = some (.b t' cs') → listed.getD i true = true → listed.getD j true = true → f i ≠ f j
def blkX (f : Nat → Nat) (listed : Array Bool) (ks : List Kn) (i : Nat) : Option Blk := match ks[i]? with
 | some (.b t cs) => if listed.getD i true then some ⟨f i,cs,t⟩ else none
 | _ => none
theorem blkX_some {f : Nat → Nat} {listed : Array Bool} {ks : List Kn} {i : Nat} {x : Blk} (h : blkX f listed ks i = some x) : ∃ t cs,ks[i]? = some (.b t cs) ∧ listed.getD i true = true ∧ x = ⟨f i,cs,t⟩ := by
 unfold blkX at h
 split at h
 ·rename_i t cs hk
  split at h
  ·rename_i hl;cases h;exact ⟨t,cs,hk,hl,rfl⟩
  ·cases h
 ·cases h
theorem apart_map {g : Nat → Option Blk} (n : Nat) (h : ∀ i j x y,i < j → j < n → g i = some x → g j = some y → x.b ≠ y.b) : Apart ((List.range n).reverse.filterMap g) := by
 induction n with
 | zero => trivial
 | succ n ih =>
  rw [List.range_succ,List.reverse_append,List.reverse_singleton,List.singleton_append,List.filterMap_cons]
  have ih := ih fun i j x y hij hj => h i j x y hij ky
  cases hg : g n with
  | none => exact ih
  | some x =>
   refine ⟨Off.of fun y hy => ?_,ih⟩
   obtain ⟨i,hi,hgi⟩ := List.mem_filterMap.1 hy
   exact h i n y x ja ky hgi hg
def blksX (f : Nat → Nat) (listed : Array Bool) (ks : List Kn) (m : Nat) : List Blk := (List.range m).reverse.filterMap (blkX f listed ks)
theorem InvX.full {l : List Oper} {m N : Nat} {Γ : Env} {w0 : World} {H : List Blk} {ks : List Kn} {f : Nat → Nat} {listed : Array Bool} {a : Act} {w : World} (hml : m ≤ l.length) (h : InvX l m N Γ w0 H ks f listed a w) :
  NewX w0 (blksX f listed ks m) ∧ Hp w0 (H ++ blksX f listed ks m) w := by
 have key : ∀ x ∈ blksX f listed ks m,w0.heap.size ≤ x.b ∧ Off H x.b ∧ w.heap[x.b]? = some (.cells x.cs.toArray x.t (0,0)) := fun x hx => by
  obtain ⟨i,hi,hgi⟩ := List.mem_filterMap.1 hx
  obtain ⟨t,cs,hk,hl,rfl⟩ := blkX_some hgi
  have him : i < m := by simpa using hi
  obtain ⟨_,h2,h3,h4⟩ := h.ptr i _ t cs him (List.getElem?_eq_getElem ky) hk hl
  exact ⟨h2,h3,h4⟩
 refine ⟨fun x hx => (key x hx).1,⟨h.hp.upd.mono fun k hk hn ho => hn (off_left ho),Own.of fun x hx => ?_,apart_append h.hp.apart (fun x hx => (key x hx).2.1) (apart_map m fun i j x y hij hj hx hy => ?_)⟩⟩
 ·rcases List.mem_append.1 hx with hx | hx
  ·exact h.hp.own.at hx
  ·exact (key x hx).2.2
 ·obtain ⟨t,cs,hk,hl,rfl⟩ := blkX_some hx
  obtain ⟨t',cs',hk',hl',rfl⟩ := blkX_some hy
  exact h.inj i j t cs t' cs' hij hj hk hk' hl hl'
theorem mem_blksX {f : Nat → Nat} {listed : Array Bool} {ks : List Kn} {m i : Nat} {t : TypeId} {cs : List Value} (hi : i < m) (hk : ks[i]? = some (.b t cs)) (hl : listed.getD i true = true) : (⟨f i,cs,t⟩ : Blk) ∈ blksX f listed ks m :=
 List.mem_filterMap.2 ⟨i,by simpa using hi,by unfold blkX;rw [hk];simp only;rw [if_pos hl]⟩
def bagXB (l : List Oper) (N : Nat) (Γ : Env) : Nat → List Oper → Bool
 | _,[] => true
 | i,o :: rest => (match o.dst with | some d => Nat.blt d N && !(Γ.any fun p => Nat.beq p.1 d) && rest.all fun o' => !(Nat.beq (dstO o') d) | none => false) && o.after.toList.all (fun e => !(Region.binds .any e) || Nat.blt e.on i) && bagXB l N Γ (i + 1) rest
theorem bagXB_out {l : List Oper} {N : Nat} {Γ : Env} {k : Nat} {l' : List Oper} (h : bagXB l N Γ k l' = true) {i : Nat} {o : Oper} (hi : l'[i]? = some o) :
  o.dst = some (dstO o) ∧ dstO o < N ∧ (∀ t v,look Γ t = some v → t ≠ dstO o) ∧ (∀ e ∈ o.after.toList,Region.binds .any e = true → e.on < k + i) ∧ ∀ j o',i < j → l'[j]? = some o' → dstO o' ≠ dstO o := by
 induction l' generalizing k i with
 | nil => simp at hi
 | cons x rest ih =>
  simp only [bagXB,Bool.and_eq_true] at h
  obtain ⟨⟨h1,h2⟩,h3⟩ := h
  cases i with
  | zero =>
   simp only [List.getElem?_cons_zero,Option.some.injEq] at hi
   subst hi
   cases hd : x.dst with
   | none => rw [hd] at h1;cases h1
   | some d =>
    rw [hd] at h1
    simp only [Bool.and_eq_true,Bool.not_eq_true',List.all_eq_true] at h1
    obtain ⟨⟨h1,h4⟩,h5⟩ := h1
    have hx : dstO x = d := by simp [dstO,hd]
    rw [hx]
    refine ⟨rfl,Nat.le_of_ble_eq_true h1,fun t v ht e => ?_,fun e he hb => ?_,fun j o' hj ho' e => ?_⟩
    ·rw [← e,look_any ht] at h4;cases h4
    ·have := List.all_eq_true.1 h2 e he
     rw [hb,Bool.not_true,Bool.false_or] at this
     exact Nat.le_of_ble_eq_true this
    ·cases j with
     | zero => omega
     | succ j =>
      have := h5 o' (List.mem_of_getElem? (by simpa using ho'))
      rw [e] at this
      simp at this
  | succ i =>
   have := ih h3 (i := i) ja
   refine ⟨this.1,this.2.1,this.2.2.1,fun e he hb => by have := this.2.2.2.1 e he hb;omega,fun j o' hj ho' => ?_⟩
   cases j with
   | zero => omega
   | succ j => exact this.2.2.2.2 j o' ky (by simpa using ho')
theorem InvX.step {P : Program} {l : List Oper} {m N : Nat} {Γ : Env} {w0 : World} {H : List Blk} {ks : List Kn} {f : Nat → Nat} {Q : Exit → Act → World → Prop} {listed : Array Bool} {a : Act} {w : World} (hml : m ≤ l.length) (hc : bagXB l N Γ 0 (l.take m) = true)
  (hops : OpsX P l N Γ w0 H ks (l.take m) ks) (hi : InvX l m N Γ w0 H ks f listed a w) {i : Nat} (him : i < m) (hr : i ∈ Region.ready .any l.toArray listed) {K : Act → World → Prop}
  (hK : ∀ f' a' w',InvX l m N Γ w0 H ks f' (listed.setIfInBounds i true) a' w' → K a' w') : wpOp P l.toArray Q i K a w := by
 have hlt := ready_lt hr
 have hol : l[i]? = some l[i] := List.getElem?_eq_getElem hlt
 have hedges := ((ready_iff hol).1 hr).2
 have hunl := ((ready_iff hol).1 hr).1
 have ho : (l.take m)[i]? = some l[i] := by rw [List.getElem?_take_of_lt him];exact hol
 generalize l[i] = o at ho hol hedges
 have hoa : l.toArray[i]? = some o := by simpa using hol
 obtain ⟨hd,hdN,hΓ,hed,hlater⟩ := bagXB_out hc ho
 have hdst : ∀ j oj,j < m → l[j]? = some oj → i ≠ j → dstO oj ≠ dstO o := fun j oj hj hjo e => by
  have hjo' : (l.take m)[j]? = some oj := by rw [List.getElem?_take_of_lt hj];exact hjo
  rcases Nat.lt_or_gt_of_ne e with e | e
  ·exact hlater j oj e hjo'
  ·exact fun e' => (bagXB_out hc hjo').2.2.2.2 i o e ho e'.symm
 obtain ⟨hnew,hfull⟩ := hi.full hml
 have hdep : ∀ e ∈ o.after.toList,Region.binds .any e = true → ∀ x,ks[e.on]? = some (.v x) → a.tmps[dstAt l e.on]? = some x := fun e he hb x hx => by
  have h1 := hedges e (by simpa using he) hb
  have h2 := hed e he hb
  have h3 : l[e.on]? = some l[e.on] := List.getElem?_eq_getElem ky
  have := hi.val e.on _ x ky h3 hx (by
   simp only [Array.getD_eq_getD_getElem?] at h1 ⊢
   cases hx : listed[e.on]? with
   | none => rfl
   | some b => rw [hx] at h1;exact h1)
  unfold dstAt
  rw [h3]
  exact this
 have fin : ∀ (Post : Exit → Act → World → Prop),wpList P l.toArray Post [o] a w → (∀ e a' w',Post e a' w' → e = .normal) → (∀ a' w',Post .normal a' w' → (∃ v,a'.tmps = (a.put o.dst v).tmps) → K a' w') → wpOp P l.toArray Q i K a w := fun Post hwl hn key => by
  unfold wpOp
  simp only [hoa]
  simp only [wpList] at hwl
  split
  ·rename_i hw
   rw [if_pos hw] at hwl
   rcases hwl with h | ⟨_,x,y,h⟩
   ·have h1 := wp_only (fun _ _ _ h => hn _ _ _ h) (wp_tmps h)
    refine .inl ?_
    have h2 := Oper.wp_mono (fun a' w' hh => key a' w' hh.1 hh.2) h1
    unfold Oper.wp at *
    generalize (execOp a.eval o).run P w = r at *
    cases r with
    | ok n w' =>
     cases n <;> simp only [Oper.upon] at h2 ⊢
     case value u => exact h2
     case skip => exact h2
     case defer d => exact h2
     case enter f args => exact Calls.mono h2 (fun e w'' he => by cases e <;> first | exact he | exact he.elim | (obtain ⟨_,_,hf⟩ := he;exact hf.elim))
     case row row args => exact h2
    | halt x w' => cases x <;> simp only [Oper.upon] at h2
   ·cases hn _ _ _ h
  ·rename_i hw
   rw [if_neg hw] at hwl
   exact key _ _ hwl ⟨undef,rfl⟩
 have keepT : ∀ {a' : Act} {u : Value},a'.tmps = (a.put o.dst u).tmps → ∀ t,t ≠ dstO o → a'.tmps[t]? = a.tmps[t]? := fun {a' u} hu t ht => by
  rw [hd] at hu
  rw [hu]
  simp [Act.put,Array.getElem?_setIfInBounds_ne (Ne.symm ht)]
 rcases hops.out ho with ⟨x,hx,hW⟩ | ⟨t,cs,hx,hW⟩
 ·obtain ⟨Γ',hf',hW⟩ := (hW _ hnew).run hi.fr hdep
  refine fin _ (hW.elim a w hf' hfull) (fun _ _ _ h => h.1) ?_
  rintro a' w' ⟨_,hfr,hp'⟩ ⟨u,hu⟩
  have hne := keepT hu
  refine hK f a' w' ⟨⟨hfr.defers,hfr.size,fun t v ht => by rw [hne t (hΓ t v ht)];exact hi.fr.get t v ht⟩,hp_left hp' hnew,fun j oj y hj hjo hy hl => ?_,fun j oj t cs hj hjo hy hl => ?_,fun j k t cs t' cs' hjk hk hkj hkk hl hl' => ?_⟩
  ·by_cases e : i = j
   ·subst e
    rw [hol] at hjo
    cases hjo
    rw [hx] at hy
    cases hy
    exact hfr.get _ _ (by simp [look])
   ·rw [getD_set e] at hl
    rw [hne _ (hdst j oj hj hjo e)]
    exact hi.val j oj y hj hjo hy hl
  ·have e : i ≠ j := fun e => by subst e;rw [hx] at hy;cases hy
   rw [getD_set e] at hl
   obtain ⟨h1,h2,h3,_⟩ := hi.ptr j oj t cs hj hjo hy hl
   exact ⟨by rw [hne _ (hdst j oj hj hjo e)];exact h1,h2,h3,hp'.own.at (List.mem_append_right _ (mem_blksX hj hy hl))⟩
  ·have e : i ≠ j := fun e => by subst e;rw [hx] at hkj;cases hkj
   have e' : i ≠ k := fun e => by subst e;rw [hx] at hkk;cases hkk
   rw [getD_set e] at hl
   rw [getD_set e'] at hl'
   exact hi.inj j k t cs t' cs' hjk hk hkj hkk hl hl'
 ·refine fin _ ((hW _).elim a w hi.fr hfull) (fun _ _ _ h => h.1) ?_
  rintro a' w' ⟨_,c,hc0,hco,hfr,hp'⟩ ⟨u,hu⟩
  have hne := keepT hu
  have hnew' : NewX w0 (⟨c,cs,t⟩ :: blksX f listed ks m) := fun y hy => by
   rcases List.mem_cons.1 hy with rfl | hy
   ·exact hc0
   ·exact hnew y hy
  have hH : Hp w0 H w' := by
   have h1 : Hp w0 (H ++ (⟨c,cs,t⟩ :: blksX f listed ks m)) w' := by
    refine ⟨hp'.upd.mono fun k hk hn ho => hn ?_,Own.of fun x hx => hp'.own.at ?_,apart_append hi.hp.apart (fun x hx => ?_) ⟨off_right hco,?_⟩⟩
    ·have h1 := off_left ho
     have h2 := off_right ho
     exact ⟨h2.1,off_append h1 h2.2⟩
    ·rcases List.mem_append.1 hx with hx | hx
     ·exact .tail _ (List.mem_append_left _ hx)
     ·rcases List.mem_cons.1 hx with rfl | hx
      ·exact .head _
      ·exact .tail _ (List.mem_append_right _ hx)
    ·rcases List.mem_cons.1 hx with rfl | hx
     ·exact off_left hco
     ·have := hfull.apart
      have key : ∀ (H X : List Blk),Apart (H ++ X) → ∀ x ∈ X,Off H x.b := by
       intro H
       induction H with
       | nil => intros;trivial
       | cons y r ih => exact fun X h x hx => ⟨h.1.at (List.mem_append_right _ hx) |>.symm,ih X h.2 x hx⟩
      exact key H _ this x hx
    ·have := hfull.apart
     have key : ∀ (H X : List Blk),Apart (H ++ X) → Apart X := by
      intro H
      induction H with
      | nil => exact fun _ h => h
      | cons y r ih => exact fun X h => ih X h.2
     exact key H _ this
   exact hp_left h1 hnew'
  have hfi : ∀ j,i ≠ j → (if j = i then c else f j) = f j := fun j e => if_neg (fun e' => e e'.symm)
  have hoff : ∀ j t' cs',j < m → ks[j]? = some (.b t' cs') → listed.getD j true = true → f j ≠ c := fun j t' cs' hj hk hl => (off_right hco).at (mem_blksX hj hk hl)
  refine hK (fun k => if k = i then c else f k) a' w' ⟨⟨hfr.defers,hfr.size,fun t v ht => by rw [hne t (hΓ t v ht)];exact hi.fr.get t v ht⟩,hH,fun j oj y hj hjo hy hl => ?_,fun j oj t' cs' hj hjo hy hl => ?_,fun j k t1 cs1 t2 cs2 hjk hk hkj hkk hl hl' => ?_⟩
  ·have e : i ≠ j := fun e => by subst e;rw [hx] at hy;cases hy
   rw [getD_set e] at hl
   rw [hne _ (hdst j oj hj hjo e)]
   exact hi.val j oj y hj hjo hy hl
  ·by_cases e : i = j
   ·subst e
    rw [hol] at hjo
    cases hjo
    rw [hx] at hy
    cases hy
    simp only [if_true]
    exact ⟨hfr.get _ _ (by simp [look]),hc0,off_left hco,hp'.own.1⟩
   ·rw [getD_set e] at hl
    obtain ⟨h1,h2,h3,_⟩ := hi.ptr j oj t' cs' hj hjo hy hl
    rw [hfi j e]
    exact ⟨by rw [hne _ (hdst j oj hj hjo e)];exact h1,h2,h3,hp'.own.at (.tail _ (List.mem_append_right _ (mem_blksX hj hy hl)))⟩
  ·by_cases e : i = j
   ·subst e
    have e' : i ≠ k := by omega
    rw [getD_set e'] at hl'
    rw [hfi k e']
    simp only [if_true]
    exact fun h => hoff k _ _ hk hkk hl' h.symm
   ·by_cases e' : i = k
    ·subst e'
     rw [getD_set e] at hl
     rw [hfi j e]
     simp only [if_true]
     exact hoff j _ _ ky hkj hl
    ·rw [getD_set e] at hl
     rw [getD_set e'] at hl'
     rw [hfi j e,hfi k e']
     exact hi.inj j k _ _ _ _ hjk hk hkj hkk hl hl'
def chainX (l : List Oper) (m : Nat) : Bool := (Nat.beq m l.length && l.all (fun o => o.dst.isSome) && (List.range l.length).all (fun i => match l[i]? with | some o => o.after.toList.all (fun e => !(Region.binds .any e) || Nat.blt e.on i) | none => true)) || chainB l m
theorem countF (n : Nat) : ∀ (x : Array Bool) (k : Nat),k ≤ x.size → (∀ j,j < k → x.getD j true = true) → (∀ j,k ≤ j → j < x.size → x.getD j true = false) → x.toList.count false = x.size - k := by
 intro x k hk h1 h2
 obtain ⟨l⟩ := x
 simp only [List.size_toArray] at hk h2 ⊢
 have e : l = List.replicate k true ++ List.replicate (l.length - k) false := by
  apply List.ext_getElem
  ·simp;omega
  ·intro i hi1 hi2
   rw [List.getElem_append]
   split
   ·rename_i h
    have := h1 i (by simpa using h)
    simpa [Array.getD_eq_getD_getElem?,hi1] using this
   ·rename_i h
    have := h2 i (by simpa using h) hi1
    simpa [Array.getD_eq_getD_getElem?,hi1] using this
 rw [e]
 simp [List.count_append,List.count_replicate]
theorem bagX_run {P : Program} {l : List Oper} {m N : Nat} {Γ : Env} {w0 : World} {H : List Blk} {ks : List Kn} {Q : Exit → Act → World → Prop} (hch : chainX l m = true) (hc : bagXB l N Γ 0 (l.take m) = true)
  (hops : OpsX P l N Γ w0 H ks (l.take m) ks) (hend : ∀ f listed a w,(∀ j,j < m → listed.getD j true = true) → InvX l m N Γ w0 H ks f listed a w → wpList P l.toArray Q (l.drop m) a w) :
  ∀ n (listed : Array Bool) f a w,listed.size = l.length → listed.toList.count false = n → InvX l m N Γ w0 H ks f listed a w →
   (∀ j o,l[j]? = some o → listed.getD j true = true → ∀ e ∈ o.after.toList,Region.binds .any e = true → listed.getD e.on false = true) → (∀ j,m ≤ j → j < l.length → listed.getD j true = false) → wpAny P .any l.toArray Q n listed a w := by
 have hback : m ≤ l.length ∧ (∀ (i : Nat) (o : Oper),l[i]? = some o → ∀ e ∈ o.after.toList,Region.binds .any e = true → e.on < i) ∧ (m < l.length → Chain l m) := by
  unfold chainX at hch
  rw [Bool.or_eq_true] at hch
  rcases hch with h | h
  ·rw [Bool.and_eq_true] at h
   rw [Bool.and_eq_true] at h
   have := Nat.eq_of_beq_eq_true h.1.1
   refine ⟨by omega,fun i o ho e he hb => ?_,fun hl => by omega⟩
   have hil := (List.getElem?_eq_some_iff.1 ho).1
   have := List.all_eq_true.1 h.2 i (List.mem_range.2 hil)
   rw [ho] at this
   have := List.all_eq_true.1 this e he
   rw [hb,Bool.not_true,Bool.false_or] at this
   exact Nat.le_of_ble_eq_true this
  ·have := chainB_out h
   exact ⟨Nat.le_of_lt this.lt,this.back,fun _ => this⟩
 obtain ⟨hml,hbk,hch⟩ := hback
 intro n
 induction n with
 | zero =>
  intro listed f a w hsz hn hi hdown hun
  have hcn : ∀ j,j < l.length → listed.getD j true = true := fun j hj => by
   have h2 : false ∉ listed.toList := List.count_eq_zero.1 hn
   cases e : listed.getD j true with
   | true => rfl
   | false =>
    rw [Array.getD_eq_getD_getElem?,Array.getElem?_eq_getElem ky] at e
    have h3 : listed[j]'(by omega) ∈ listed.toList := by simp
    have e' : listed[j]'(by omega) = false := e
    rw [e'] at h3
    exact (h2 h3).elim
  have hmeq : m = l.length := by
   rcases Nat.lt_or_ge m l.length with h | h
   ·have h1 := hun m (Nat.le_refl _) h
    rw [hcn m h] at h1
    cases h1
   ·omega
  have hall : ∀ j,j < m → listed.getD j true = true := fun j hj => hcn j ky
  have hr : Region.ready .any l.toArray listed = [] := by
   rw [List.eq_nil_iff_forall_not_mem]
   intro i hi'
   have hil := ready_lt hi'
   have := ((ready_iff (List.getElem?_eq_getElem hil)).1 hi').1
   rw [hcn i hil] at this
   cases this
  refine ⟨hr,?_⟩
  have := hend f listed a w hall hi
  rw [hmeq,List.drop_length] at this
  exact this
 | succ n ih =>
  intro listed f a w hsz hn hi hdown hun
  have hcount : ∀ i,i < l.length → listed.getD i true = false → (listed.setIfInBounds i true).toList.count false = n := fun i hil h => by
   have hm' : i < listed.size := by omega
   have h3 : listed[i] = false := by
    rw [Array.getD_eq_getD_getElem?,Array.getElem?_eq_getElem hm'] at h
    exact h
   rw [Array.toList_setIfInBounds,List.count_set (by simpa using hm')]
   simp [h3,hn]
  by_cases hall : ∀ j,j < m → listed.getD j true = true
  ·have hlt : m < l.length := by
    have := countF 0 listed m ky hall (fun j h1 h2 => hun j h1 ky)
    omega
   have hch := hch hlt
   refine tail_run hch (l.drop m) m rfl (Nat.le_refl _) (n + 1) listed a w hsz (fun j hj _ => hall j hj) hun ?_ (hend f listed a w hall hi)
   have h := countF 0 listed m ky hall (fun j h1 h2 => hun j h1 ky)
   rw [hn,hsz] at h
   exact h
  ·have hex : ∃ j,j < m ∧ listed.getD j true = false ∧ ∀ i,i < j → listed.getD i true = true := by
    have key : ∀ k,k ≤ m → (∀ j,j < k → listed.getD j true = true) ∨ ∃ j,j < m ∧ listed.getD j true = false ∧ ∀ i,i < j → listed.getD i true = true := by
     intro k
     induction k with
     | zero => exact fun _ => .inl fun j hj => by omega
     | succ k ihk =>
      intro hk
      rcases ihk ky with h | h
      ·cases hl : listed.getD k true
       ·exact .inr ⟨k,by omega,hl,h⟩
       ·refine .inl fun j hj => ?_
        rcases Nat.lt_succ_iff_lt_or_eq.1 hj with hj | hj
        ·exact h j hj
        ·subst hj;exact hl
      ·exact .inr h
    exact (key m (Nat.le_refl _)).elim (fun h => (hall h).elim) id
   refine ⟨fun hr => ?_,fun i hr => ?_⟩
   ·obtain ⟨j,hjm,hj,hbefore⟩ := hex
    have ho : l[j]? = some l[j] := List.getElem?_eq_getElem ky
    have : j ∈ Region.ready .any l.toArray listed := (ready_iff ho).2 ⟨hj,fun e he hb => by
     have := hbk j _ ho e he hb
     rw [← getD_tf ky]
     exact hbefore e.on this⟩
    rw [hr] at this
    cases this
   ·have hil := ready_lt hr
    have hio := (ready_iff (List.getElem?_eq_getElem hil)).1 hr
    have him : i < m := by
     rcases Nat.lt_or_ge i m with h | h
     ·exact h
     ·exfalso
      have hch := hch ky
      rcases Nat.lt_or_eq_of_le h with h | h
      ·obtain ⟨e,he,he1,he2⟩ := hch.next i _ h (List.getElem?_eq_getElem hil)
       have := hio.2 e he he2
       rw [← getD_tf ky,he1,hun (i - 1) ky ky] at this
       cases this
      ·subst h
       refine hall ?_
       have key : ∀ d j,j < m → m - j ≤ d → listed.getD j true = true := by
        intro d
        induction d with
        | zero => intro j h1 h2;omega
        | succ d ihd =>
         intro j hj hd
         obtain ⟨x,o,h1,h2,ho,e,he,he1,he2⟩ := hch.pre j hj
         rcases Nat.lt_or_eq_of_le h2 with h2 | h2
         ·have := hdown x o ho (ihd x h2 ky) e he he2
          rw [← getD_tf ky,he1] at this
          exact this
         ·subst h2
          have hox := List.getElem?_eq_getElem hil
          rw [ho] at hox
          cases hox
          have := hio.2 e he he2
          rw [← getD_tf ky,he1] at this
          exact this
       exact fun j hj => key m j hj ky
    refine hi.step hml hc hops him hr fun f' a' w' hi' => ih _ f' a' w' (by simp [hsz]) (hcount i hil hio.1) hi' (fun j o ho hl e he hb => ?_) (fun j hj hjl => ?_)
    ·have hjl := (List.getElem?_eq_some_iff.1 ho).1
     have hej := hbk j o ho e he hb
     have hlist : listed.getD e.on false = true := by
      by_cases e' : i = j
      ·subst e'
       have hox := List.getElem?_eq_getElem hil
       rw [ho] at hox
       cases hox
       exact hio.2 e he hb
      ·rw [getD_set e'] at hl
       exact hdown j o ho hl e he hb
     rw [← getD_tf zx]
     by_cases e' : i = e.on
     ·rw [e'];simp [Array.getD_eq_getD_getElem?,hsz];try omega
     ·rw [getD_set e',getD_tf ky];exact hlist
    ·rw [getD_set ky];exact hun j hj hjl
theorem EndX.run {kp : Nat → Bool} {w0 : World} {H : List Blk} {K : Env → List Blk → Prop} {l : List Oper} {m N : Nat} {Γ0 : Env} {ks : List Kn} {f : Nat → Nat} {listed : Array Bool} {a : Act} {w : World} (hml : m ≤ l.length) (hi : InvX l m N Γ0 w0 H ks f listed a w) (hall : ∀ j,j < m → listed.getD j true = true) :
  ∀ (l' : List Oper) (ks' : List Kn) (i : Nat) (Γ : Env) (B : List Blk),l' = (l.take m).drop i → ks' = ks.drop i → i ≤ m → ks.length = m → Fr N a Γ → B = blksX f listed ks i → EndX kp w0 H K l' ks' i Γ B →
   ∃ Γ',Fr N a Γ' ∧ K Γ' (blksX f listed ks m) := by
 intro l'
 induction l' with
 | nil =>
  intro ks' i Γ B hl hk him hkl hf hB h
  have h1 : (l.take m).length ≤ i := by simpa using hl.symm
  rw [List.length_take] at h1
  have : i = m := by omega
  subst this
  subst hB
  cases ks' <;> exact ⟨Γ,hf,h⟩
 | cons o os ih =>
  intro ks' i Γ B hl hk him hkl hf hB h
  have hlt : i < m := by
   rcases Nat.lt_or_ge i m with h' | h'
   ·exact h'
   ·rw [List.drop_eq_nil_of_le jc] at hl;cases hl
  have hol : l[i]? = some o := by
   have := List.getElem?_drop (xs := l.take m) (i := i) (j := 0)
   rw [← hl,List.getElem?_take_of_lt ky] at this
   simpa using this.symm
  have hos : os = (l.take m).drop (i + 1) := by rw [← List.drop_drop,← hl];rfl
  have hki : ks[i]? = some (ks[i]'(by omega)) := List.getElem?_eq_getElem ky
  rw [List.drop_eq_getElem_cons ky] at hk
  have bstep : blksX f listed ks (i + 1) = (match blkX f listed ks i with | some x => x :: blksX f listed ks i | none => blksX f listed ks i) := by
   unfold blksX
   rw [List.range_succ,List.reverse_append,List.reverse_singleton,List.singleton_append,List.filterMap_cons]
   cases blkX f listed ks i <;> rfl
  generalize ks[i]'(by omega) = k at hk hki
  subst hk
  cases k with
  | v x =>
   have hv := hi.val i o x hlt hol hki (hall i hlt)
   refine ih (ks.drop (i + 1)) (i + 1) _ B hos rfl ky hkl ?_ ?_ h
   ·cases kp i
    ·exact hf
    ·exact hf.cons hv
   ·rw [bstep,hB]
    unfold blkX
    rw [hki]
  | b t cs =>
   obtain ⟨h1,h2,h3,h4⟩ := hi.ptr i o t cs hlt hol hki (hall i hlt)
   have hoff : Off B (f i) := by
    rw [hB]
    refine Off.of fun x hx => ?_
    obtain ⟨j,hj,hg⟩ := List.mem_filterMap.1 hx
    obtain ⟨t',cs',hk',hl',rfl⟩ := blkX_some hg
    exact hi.inj j i _ _ _ _ (by simpa using hj) hlt hk' hki hl' (hall i hlt)
   refine ih (ks.drop (i + 1)) (i + 1) _ (⟨f i,cs,t⟩ :: B) hos rfl ky hkl (hf.cons h1) ?_ (h (f i) h2 (off_append hoff h3))
   rw [bstep,hB]
   unfold blkX
   rw [hki]
   simp only [hall i hlt,if_true]
theorem hp_swap {w0 w : World} {H X : List Blk} (h : Hp w0 (H ++ X) w) : Hp w0 (X ++ H) w := by
 refine ⟨h.upd.mono fun k hk hn ho => hn (off_append (off_right ho) (off_left ho)),Own.of fun x hx => h.own.at (List.mem_append.2 (List.mem_append.1 hx).symm),?_⟩
 have key : ∀ (H X : List Blk),Apart (H ++ X) → Apart X ∧ Apart H ∧ ∀ x ∈ H,Off X x.b := by
  intro H
  induction H with
  | nil => exact fun X h => ⟨h,trivial,fun _ h => nomatch h⟩
  | cons y r ih =>
    intro X h
    obtain ⟨h1,h2,h3⟩ := ih X h.2
    refine ⟨h1,⟨off_left h.1,h2⟩,fun x hx => ?_⟩
    rcases List.mem_cons.1 hx with rfl | hx
    ·exact off_right h.1
    ·exact h3 x hx
 obtain ⟨h1,h2,h3⟩ := key H X h.apart
 exact apart_append h1 h3 h2
section
variable {P : Program} {N : Nat} {Γ : Env} {C : World → Prop} {Q : Exit → Act → World → Prop}
theorem St.bagX {i : Nat} {l : List Oper} {w0 : World} {H : List Blk} {ks : List Kn} (m : Nat) (sel : List Nat) (hm : P.follows .mixedOrders = true) (hch : chainX l m = true) (hc : bagXB l N Γ 0 (l.take m) = true)
  (hops : OpsX P l N Γ w0 H ks (l.take m) ks)
  (hend : EndX (keepX sel (l.drop m)) w0 H (fun Γ' B => Wl (l.drop m) P .seq l.toArray N Γ' (Hp w0 (B ++ H)) Q) (l.take m) ks 0 Γ []) : St (.region i l.toArray true) P N Γ (Hp w0 H) Q := St.intro fun a w ha hw => by
 have hml : m ≤ l.length := by
  have := hops.len
  unfold chainX at hch
  rw [Bool.or_eq_true] at hch
  rcases hch with h | h
  ·rw [Bool.and_eq_true,Bool.and_eq_true] at h
   have := Nat.eq_of_beq_eq_true h.1.1
   omega
  ·exact Nat.le_of_lt (chainB_out h).lt
 refine wp_region_any hm ?_
 have := bagX_run (Q := Q) hch hc hops (fun f listed a w hall hi => by
  obtain ⟨Γ',hf,hK⟩ := EndX.run hml hi hall _ _ 0 Γ [] rfl rfl (Nat.zero_le _) (by rw [hops.len,List.length_take];omega) hi.fr (by simp [blksX]) hend
  exact hK.elim a w hf (hp_swap (hi.full hml).2)) l.length (Array.replicate l.length false) (fun _ => 0) a w.drew qs (by simp [List.count_replicate])
  ⟨ha,hw.drew,fun i o x hi ho _ hl => by
   have h1 := (List.getElem?_eq_some_iff.1 ho).1
   simp [Array.getD_eq_getD_getElem?,h1] at hl,fun i o t cs hi ho _ hl => by
   have h1 := (List.getElem?_eq_some_iff.1 ho).1
   simp [Array.getD_eq_getD_getElem?,h1] at hl,fun i j t cs t' cs' _ hj _ _ _ hl => by
   have h1 : j < l.length := by omega
   simp [Array.getD_eq_getD_getElem?,h1] at hl⟩ (fun j o ho hl => by
   have h1 := (List.getElem?_eq_some_iff.1 ho).1
   simp [Array.getD_eq_getD_getElem?,h1] at hl) (fun j _ hjl => by simp [Array.getD_eq_getD_getElem?,hjl])
 simpa using this
theorem Gt.endX {d : Nat} {x : Value} (hv : look Γ d = some x) : Gt N .normal Γ C (PostX N d x C) := Gt.intro fun a w ha hw => ⟨rfl,ha.sub (.cons hv .nil),hw⟩
theorem EndX.nil' {kp : Nat → Bool} {w0 : World} {H : List Blk} {K : Env → List Blk → Prop} {ks : List Kn} {i : Nat} {B : List Blk} (h : K Γ B) : EndX kp w0 H K [] ks i Γ B := by
 cases ks <;> exact h
theorem EndX.on {kp : Nat → Bool} {w0 : World} {H : List Blk} {K : Env → List Blk → Prop} {ks : List Kn} {i d : Nat} {op : Op} {ty : TypeId} {pos : String} {af : Array Edge} {g : Option (Nat × Bool)} {os : List Oper} {x : Value} {B : List Blk} (hk : kp i = true) (h : EndX kp w0 H K os ks (i + 1) ((d,x) :: Γ) B) : EndX kp w0 H K (⟨some d,op,ty,pos,af,g⟩ :: os) (.v x :: ks) i Γ B := by
 unfold EndX;rw [hk];exact h
theorem EndX.off {kp : Nat → Bool} {w0 : World} {H : List Blk} {K : Env → List Blk → Prop} {ks : List Kn} {i : Nat} {o : Oper} {os : List Oper} {x : Value} {B : List Blk} (hk : kp i = false) (h : EndX kp w0 H K os ks (i + 1) Γ B) : EndX kp w0 H K (o :: os) (.v x :: ks) i Γ B := by
 unfold EndX;rw [hk];exact h
inductive CatB : List Blk → List Blk → List Blk → Prop
 | nil {H : List Blk} : CatB [] H H
 | cons {x : Blk} {B H R : List Blk} (h : CatB B H R) : CatB (x :: B) H (x :: R)
theorem CatB.out {B H R : List Blk} (h : CatB B H R) : R = B ++ H := by
 induction h with
 | nil => rfl
 | cons _ ih => rw [ih];rfl
theorem Wl.catX {ops : Array Oper} {w0 : World} {l : List Oper} {B H R : List Blk} {dd : Nat} {x : Value} (e : CatB B H R) (h : Wl l P .seq ops N Γ (Hp w0 R) (PostX N dd x (Hp w0 R))) : Wl l P .seq ops N Γ (Hp w0 (B ++ H)) (PostX N dd x (Hp w0 (B ++ H))) := by
 rw [e.out] at h;exact h
theorem Wl.catE {ops : Array Oper} {w0 : World} {l : List Oper} {B H R : List Blk} (e : CatB B H R) (h : Wl l P .seq ops N Γ (Hp w0 R) Q) : Wl l P .seq ops N Γ (Hp w0 (B ++ H)) Q := by
 rw [e.out] at h;exact h
theorem NewX.off {w0 : World} {X : List Blk} {b : Nat} (h : NewX w0 X) (hb : b < w0.heap.size) : Off X b := Off.of fun x hx e => by have := h x hx;omega
end
attribute [irreducible] EndX
end Go.Pt
end
